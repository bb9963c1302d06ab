/-
  What holds of each entry of a list and those ahead of it: plain; Launches of two jobs, and the spans of time that the law AuditWindows looks at: plain; Launches of one job, as the law AuditParts makes them: plain; Contracts, by their trees; AuditParts: the JS, the row, the card.
-/
import Derived.Test.YtjabmipkllkfbaaGreatDoorZN
import Derived.Test.YtjabmipkllkfbaaGreatDoorZQ
import Derived.Test.YtjabmipkllkfbaaGreatDoorZG
import Derived.Test.YtjabmipkllkfbaaGreatDoorZP
import Derived.Test.YtjabmipkllkfbaaGreatDoorZRb
import Derived.Test.YtjabmipkllkfbaaGreatDoorZRc
import Derived.Test.YtjabmipkllkfbaaGreatDoorZS
import Derived.Test.YtjabmipkllkfbaaGreatDoorZU
set_option linter.unusedVariables false
set_option linter.unusedSimpArgs false
namespace Go.Proofs.YtjabmipkllkfbaaGreatDoor.Vc
section
open As
theorem zX {jobs:Int}:∀(r p:List Ev),(∀i x,r[i]? = some x->cS jobs (p++r.take i) x=0)->ix jobs p r=(0,0):=by
 intro r
 induction r with
 | nil=>intro p _;rfl
 | cons y r ih=>
  intro p h
  have h0:=h 0 y rfl
  rw [List.take_zero,List.append_nil] at h0
  simp only [ix]
  rw [if_neg (by rw [h0];simp)]
  refine ih _ fun i x hx => ?_
  have:=h (i+1) x (by simpa using hx)
  rw [List.append_assoc]
  simpa using this
end
section
open As
def Jw (i:Nat) (x:Ev):Prop:=(x.kind=1/\x.attempt=1/\x.run=(i:Int)+1/\x.due=(i:Int)/\x.why=0/\x.when_=0)/\(0<=x.job/\x.job<=1)/\1000<=x.at_/\x.at_<=1000+15*((i:Int)+1)
def wz (l:List Ev):Prop:=(l.length<=100/\∀(i:Nat) (x:Ev),l[i]? = some x->Jw i x)/\∀(i j:Nat) (x y:Ev),j<=i->l[i]? = some x->l[j]? = some y->y.at_<=x.at_
theorem wz.nil:wz []:=⟨⟨by simp,fun i x h=>by simp at h⟩,fun i j x y _ h=>by simp at h⟩
theorem wz.snoc {l:List Ev} {x:Ev} (h:wz l) (hl:l.length<100) (hx:Jw l.length x) (hu:∀(j:Nat) (y:Ev),l[j]? = some y->y.at_<=x.at_):wz (l++[x]):=by
 have key:∀(i:Nat) (y:Ev),(l++[x])[i]? = some y->(l[i]? = some y/\i<l.length)\/(i=l.length/\y=x):=fun i y hy=>by
  rcases Nat.lt_or_ge i l.length with g | g
  ·rw [List.getElem?_append_left g] at hy;exact .inl ⟨hy,g⟩
  ·have hlt:=(List.getElem?_eq_some_iff.1 hy).1
   rw [List.length_append] at hlt
   have e:i=l.length:=by simp at hlt;omega
   subst e
   simp at hy
   exact .inr ⟨rfl,hy.symm⟩
 refine ⟨⟨by rw [List.length_append];simp;omega,fun i y hy => ?_⟩,fun i j y z hij hy hz => ?_⟩
 ·rcases key i y hy with g | ⟨rfl,rfl⟩
  ·exact h.1.2 i y g.1
  ·exact hx
 ·rcases key i y hy with g | ⟨rfl,rfl⟩
  ·rcases key j z hz with g2 | ⟨rfl,rfl⟩
   ·exact h.2 i j y z hij g.1 g2.1
   ·omega
  ·rcases key j z hz with g2 | ⟨rfl,rfl⟩
   ·exact hu j z g2.1
   ·exact Int.le_refl _
theorem GI:∀(B:List Bool) (i k:Nat),k∈bZ B i↔∃j,k=i+j/\B[j]? = some true:=by
 intro B
 induction B with
 | nil=>intro i k;simp [bZ]
 | cons b B ih =>
  intro i k
  have hi:(∃j,k=i+j/\(b::B)[j]? = some true)↔(k=i/\b=true)\/∃j,k=i+1+j/\B[j]? = some true:=by
   constructor
   ·rintro ⟨j,rfl,hj⟩
    cases j with
    | zero=>exact .inl ⟨rfl,by simpa using hj⟩
    | succ j=>exact .inr ⟨j,by omega,by simpa using hj⟩
   ·rintro (⟨rfl,rfl⟩ | ⟨j,rfl,hj⟩)
    ·exact ⟨0,rfl,rfl⟩
    ·exact ⟨j+1,by omega,by simpa using hj⟩
  rw [hi,<-ih]
  cases b<;>simp [bZ]
end
section
open As
theorem EK {α:Type}:∀(a b:List α) (k:Nat) (y:α),mS (a++b) (a.length+k) y=a++mS b k y:=by
 intro a b k y
 rw [fD,fD,List.set_append_right _ _ (by omega),show a.length+k-a.length=k by omega]
theorem mv {k:Nat} {v:Value} {x y:Ev} (hk:k<8) (hv:(eP x).set k v=eP y):∀(l:List Ev) (i:Nat),l[i]? = some x->aE (dK l) (i*8+k) [v]=dK (l.set i y):=by
 intro l
 induction l with
 | nil=>intro i h;simp at h
 | cons z l ih =>
  intro i h
  show mS (eP z++dK l) (i*8+k) v=_
  cases i with
  | zero=>
   simp only [List.getElem?_cons_zero,Option.some.injEq] at h
   subst h
   rw [Nat.zero_mul,Nat.zero_add,fD,List.set_append_left _ _ (by show k<8;exact hk),hv]
   rfl
  | succ i=>
   have h':l[i]? = some x:=by simpa using h
   have e:(i+1)*8+k=(eP z).length+(i*8+k):=by show _=8+_;omega
   rw [e,EK]
   have:=ih i h'
   rw [show mS (dK l) (i*8+k) v=aE (dK l) (i*8+k) [v] from rfl,this]
   rfl
theorem sy {l:List Ev} {i k:Nat} {x:Ev} {z:Int} (hx:l[i]? = some x) (hk:k<8) (hc:(eP x)[k]? = some (.int .i64 z)):br (dK l) (((0:Int)+((i:Int)*8))+(k:Int))=some (.int .i64 z):=by
 have h:=jv (v := .int .i64 z) ((uI l i k x hx hk).trans hc) rfl
 exact jx h (by omega)
theorem oC:∀l:List Ev,(dK l).length=l.length*8:=by
 intro l
 induction l with
 | nil=>rfl
 | cons x l ih=>show (eP x++dK l).length=_;rw [List.length_append,ih];show 8+_=_;simp only [List.length_cons];omega
def Eg (i:Nat) (x:Ev):Ev:={ x with job:=0,due:=if x.at_<1000+(i:Int) then x.at_ else 1000+(i:Int) }
structure nY (l l2:List Ev) (i:Nat):Prop where
 len:l2.length=l.length
 at_:∀(j:Nat) (x:Ev),l[j]? = some x->l2[j]? = some (if j<i then Eg j x else x)
theorem nY.zero (l:List Ev):nY l l 0:=⟨rfl,fun j x h=>by rw [if_neg (by omega)];exact h⟩
theorem nY.step {l l2:List Ev} {i:Nat} (h:nY l l2 i) {x:Ev} (hx:l[i]? = some x):nY l (l2.set i (Eg i x)) (i+1):=by
 have hi:=(List.getElem?_eq_some_iff.1 hx).1
 refine ⟨by rw [List.length_set];exact h.len,fun j y hy => ?_⟩
 by_cases hj:j=i
 ·subst hj
  rw [hx] at hy;cases hy
  rw [if_pos (by omega),List.getElem?_set_self (by rw [h.len];exact hi)]
 ·rw [List.getElem?_set_ne (Ne.symm hj),h.at_ j y hy]
  by_cases h1:j<i
  ·rw [if_pos h1,if_pos (by omega)]
  ·rw [if_neg h1,if_neg (by omega)]
def yg (i:Nat) (x:Ev):Prop:=(x.kind=1/\x.attempt=1/\x.run=(i:Int)+1/\x.why=0/\x.when_=0/\x.job=0)/\(1000<=x.at_/\x.at_<=3000)/\(1000<=x.due/\x.due<=x.at_)
structure pC (l:List Ev):Prop where
 len:l.length<=100
 at_:∀(i:Nat) (x:Ev),l[i]? = some x->yg i x
 up:∀(i j:Nat) (x y:Ev),j<=i->l[i]? = some x->l[j]? = some y->y.at_<=x.at_
theorem nY.pa {l l2:List Ev} (hl:wz l) (h:nY l l2 l.length):pC l2:=by
 have back:∀(j:Nat) (y:Ev),l2[j]? = some y->∃x,l[j]? = some x/\y=Eg j x:=fun j y hy=>by
  have hj:=(List.getElem?_eq_some_iff.1 hy).1
  have hx:=List.getElem?_eq_getElem (show j<l.length by rw [<-h.len];exact hj)
  have:=h.at_ j _ hx
  rw [if_pos (by rw [<-h.len];exact hj),hy] at this
  exact ⟨_,hx,Option.some.inj this⟩
 refine ⟨by rw [h.len];exact hl.1.1,fun i y hy => ?_,fun i j y z hij hy hz => ?_⟩
 ·obtain ⟨x,hx,rfl⟩:=back i y hy
  have hi:=(List.getElem?_eq_some_iff.1 hx).1
  have:=hl.1.1
  obtain ⟨⟨h1,h2,h3,h4,h5,h6⟩,⟨h7,h8⟩,h9,h10⟩:=hl.1.2 i x hx
  refine ⟨⟨h1,h2,h3,h5,h6,rfl⟩,⟨h9,by show x.at_<=3000;omega⟩,?_⟩
  show 1000<=(if x.at_<1000+(i:Int) then x.at_ else 1000+(i:Int))/\(if x.at_<1000+(i:Int) then x.at_ else 1000+(i:Int))<=x.at_
  split<;>omega
 ·obtain ⟨x,hx,rfl⟩:=back i y hy
  obtain ⟨w,hw,rfl⟩:=back j z hz
  exact hl.2 i j x w hij hx hw
theorem yg.evP {i:Nat} {x:Ev} (h:yg i x) (hi:i<=200):evP x=0:=by
 obtain ⟨⟨h1,h2,h3,h5,h6,h7⟩,⟨h9,h10⟩,h11,h12⟩:=h
 have ht:timeB x.at_=true:=by simp [timeB];omega
 have hd:timeB x.due=true:=by simp [timeB];omega
 rw [Gr x (by omega)]
 unfold JW
 rw [if_neg (by omega),if_neg (by rw [ht,hd];simp),if_neg (by omega),if_neg (by omega),if_neg (by omega),if_neg (by omega)]
 repeat' split
 all_goals first | rfl | omega
theorem yg.ok {i:Nat} {x:Ev} (h:yg i x) (hi:i<=200):yd x:=by
 obtain ⟨⟨h1,h2,h3,h5,h6,h7⟩,⟨h9,h10⟩,h11,h12⟩:=h
 exact ⟨dy (by omega) (by omega),dy (by omega) (by omega),dy (by omega) (by omega),dy (by omega) (by omega),dy (by omega) (by omega),dy (by omega) (by omega),dy (by omega) (by omega),dy (by omega) (by omega)⟩
section
variable {l:List Ev}
theorem pC.last (h:pC l):∀i,i<=l.length->fT (l.take i)=i:=by
 intro i
 induction i with
 | zero=>intro _;rfl
 | succ i ih=>
  intro hi
  have hx:l[i]? = some (l[i]'(by omega)):=List.getElem?_eq_getElem _
  rw [<-List.take_append_getElem (by omega:i<l.length),iL,if_pos (h.at_ i _ hx).1.1,(h.at_ i _ hx).1.2.2.1]
  omega
theorem pC.back (h:pC l) {i:Nat} {x:Ev} (hx:l[i]? = some x):lG (l.take i) x=false:=by
 have hi:=(List.getElem?_eq_some_iff.1 hx).1
 rcases rU (l:=l) (i:=i) (x:=x) with h3 | h3
 ·rw [h3]
  cases hy:l[i-1]? with
  | none=>rfl
  | some y=>
   have:=h.up i (i-1) x y (by omega) hx hy
   simp
   intro _;exact this
 ·omega
theorem pC.err (h:pC l) {i:Nat} {x:Ev} (hx:l[i]? = some x):cS 1 (l.take i) x=0:=by
 have hi:=(List.getElem?_eq_some_iff.1 hx).1
 have h100:=h.len
 have ha:=h.at_ i x hx
 unfold cS
 rw [if_neg (by rw [ha.evP (by omega)];simp),if_neg (by rw [ha.1.2.2.2.2.2];omega),if_neg (by rw [h.back hx];simp)]
 unfold ng
 rw [if_pos ha.1.1,h.last i (by omega),if_neg (by rw [ha.1.2.2.1];omega)]
theorem pC.trc (h:pC l):iG 1 l=(0,0):=by
 unfold iG
 rw [if_neg (by omega)]
 exact zX l [] fun i x hx=>by simpa using h.err hx
def jk (x:Ev):Ev:={ x with run:=x.run+1 }
theorem zW {jobs e:Int} {x:Ev}:∀(r p:List Ev),(∀(i:Nat) (y:Ev),r[i]? = some y->cS jobs (p++r.take i) y=0)->cS jobs (p++r) x=e->e≠0->ix jobs p (r++[x])=(((p.length+r.length:Nat):Int),e):=by
 intro r
 induction r with
 | nil=>intro p _ he hne;rw [List.append_nil] at he;simp only [List.nil_append,ix,he,if_pos hne,List.length_nil,Nat.add_zero]
 | cons y r ih=>
  intro p h he hne
  have h0:=h 0 y rfl
  simp only [List.take_zero,List.append_nil] at h0
  simp only [List.cons_append,ix,h0,ne_eq,not_true,if_false]
  rw [ih (p++[y]) (fun i z hz=>by have:=h (i+1) z (by simpa using hz);simpa using this) (by simpa using he) hne]
  simp only [List.length_append,List.length_cons,List.length_nil]
  congr 2
  omega
theorem pC.bad (h:pC l) {n:Nat} {x:Ev} (hx:l[n]? = some x) (hn:l.length=n+1):iG 1 (l.set n (jk x))=((n:Int),8):=by
 have ha:=h.at_ n x hx
 have h100:=h.len
 have e:l.set n (jk x)=l.take n++[jk x]:=by
  rw [List.set_eq_take_append_cons_drop,if_pos (by omega)]
  congr 2
  exact List.drop_of_length_le (by omega)
 have hE:evP (jk x)=0:=by
  obtain ⟨⟨h1,h2,h3,h5,h6,h7⟩,h8,h9⟩:=ha
  exact yg.evP (i:=n+1) (x:=jk x) ⟨⟨h1,h2,by show x.run+1=_;rw [h3];omega,h5,h6,h7⟩,h8,h9⟩ (by omega)
 have hErr:cS 1 ([]++l.take n) (jk x)=8:=by
  rw [List.nil_append]
  unfold cS
  have hb:lG (l.take n) (jk x)=false:=by
   have:=h.back hx
   unfold lG at this ⊢
   exact this
  rw [if_neg (by rw [hE];simp),if_neg (by show ¬(_/\1<=x.job);rw [ha.1.2.2.2.2.2];omega),if_neg (by rw [hb];simp)]
  unfold ng
  rw [if_pos (show (jk x).kind=1 from ha.1.1),h.last n (by omega),if_pos (by show x.run+1≠_;rw [ha.1.2.2.1];omega)]
 rw [e]
 unfold iG
 rw [if_neg (by omega),zW (l.take n) [] (fun i y hy=>by
  have hi:=(List.getElem?_eq_some_iff.1 hy).1
  rw [List.length_take] at hi
  rw [List.getElem?_take_of_lt (by omega)] at hy
  have:=h.err hy
  rw [List.nil_append,List.take_take,Nat.min_eq_left (by omega)]
  exact this) hErr (by decide)]
 simp only [List.length_nil,List.length_take,Nat.zero_add]
 congr 2
 omega
end
def pT (p:Int):cr:=⟨[97],2,0,0,0,0,0,0,false,false,0,1000+p,p,0,[],⟨1,0,0,7,0,0,⟨0,0⟩,⟨0,0,0⟩,⟨0,0,0,0⟩⟩⟩
section
variable {p:Int}
theorem GM (h:2<=p/\p<=17):rN (pT p):=by
 exact ⟨rfl,rfl,rfl,rfl,rfl,rfl,rfl,rfl,rfl,rfl,rfl,by show 0<=1000+p/\1000+p<=_;omega,by show 1<=p/\p<=_;omega,by show 0<=(0:Int)/\(0:Int)<=_;omega,rfl,by show 0<=(7:Int)/\(7:Int)<=_;omega⟩
theorem GN (h:2<=p/\p<=17):DC (pT p):=by
 have k0:K.i64 0:=by constructor<;>decide
 have u0:Ku 0:=by constructor<;>decide
 constructor
 case name=>show 1<=_;omega
 case skip=>rfl
 case k=>exact dy (by show _<=(2:Int);omega) (by show (2:Int)<=_;omega)
 case s=>exact dy (by show _<=1000+p;omega) (by show 1000+p<=_;omega)
 case t=>exact dy (by show _<=p;omega) (by show p<=_;omega)
 case cap=>exact dy (by show _<=(1:Int);omega) (by show (1:Int)<=_;omega)
 case dead=>exact dy (by show _<=(7:Int);omega) (by show (7:Int)<=_;omega)
 all_goals first | exact k0 | exact u0
theorem Et (h:2<=p/\p<=17):gf 1 10 10 60 0 0 [pT p]=0:=by
 have h1:xB (pT p)=0:=by
  show oT 2 0 0 0 0 0 0 false false 0 (1000+p) p 0 []=0
  unfold oT
  rw [if_pos (.inr (.inr ⟨rfl,⟨rfl,rfl,rfl,rfl,rfl,rfl,rfl,rfl⟩,rfl,by unfold Gw;rw [if_neg (by omega)],by decide⟩))]
 have h2:polP (pT p).pol=0:=by
  show firstE [ruleE [inB 1 1 1000,inB 0 0 100,inB 0 0 spanM,inB 7 0 spanM],misP 0 0,limP ⟨0,0⟩,brkP ⟨0,0,0⟩,retP_ ⟨0,0,0,0⟩] 0=0
  decide
 have a1:([pT p]:List cr).all (fun J=>ft J.name)=true:=by
  have e1:ft (pT p).name=true:=by show ft [97]=true;decide
  simp only [List.all_cons,List.all_nil,e1,Bool.and_self]
 have a2:(List.range ([pT p]:List cr).length).any (qE (qd [pT p]))=false:=by
  show (List.range 1).any (qE [[97]])=false
  decide
 have a3:([pT p]:List cr).all lZ=true:=by
  have:lZ (pT p)=true:=by simp [lZ,h1,h2]
  simp only [List.all_cons,List.all_nil,this,Bool.and_self]
 unfold gf
 rw [if_neg (by show ¬sJ 1 10 10 60 0 0≠0;decide),if_neg (by show ¬64<1;omega),if_neg (by rw [a1];simp),if_neg (by rw [a2];simp),if_neg (by rw [a3];simp)]
end
theorem E0 {m:Mem} {q:Option Addr} {l:List Ev} (h:eg m q (dK l)) (hd:∀(i:Nat) (x:Ev),l[i]? = some x->yd x) {k:Nat} (hk:l.length=k):dx m q k l:=by
 subst hk
 exact Ed h fun x hx=>by
  obtain ⟨i,hi⟩:=List.getElem?_of_mem hx
  exact hd i x hi
end
section
open As
theorem DM:(List.range 256).all (fun n=>decide (0<=aq BinOp.and IntKind.u8 (n:Int) 1)&&decide (aq BinOp.and IntKind.u8 (n:Int) 1<=1))=true:=by kernel_rfl
theorem F6 {x:Int} (h0:0<=x) (h:x<256):0<=aq BinOp.and IntKind.u8 x 1/\aq BinOp.and IntKind.u8 x 1<=1:=by
 obtain ⟨n,rfl⟩:=Int.eq_ofNat_of_zero_le h0
 have:=List.all_eq_true.1 DM n ((by first | (simp;done) | (simp;omega)))
 simp only [Bool.and_eq_true,decide_eq_true_eq] at this
 exact this
theorem HF {x:Int} (h0:0<=x):aq BinOp.shr IntKind.u8 x 1=x / 2:=by
 show x.fdiv (2 ^ (min (1:Int).toNat 8))=x / 2
 rw [Int.fdiv_eq_ediv_of_nonneg _ (by decide)]
 rfl
theorem Fc {k:IntKind} {x y:Int} (h0:0<=x):aq BinOp.rem k x y=x % y:=by
 show x.tmod y=x % y
 exact Int.tmod_eq_emod_of_nonneg h0
theorem Ib {l:List Ev} (h:pC l):∀(i:Nat) (x:Ev),l[i]? = some x->yd x:=fun i x hx=>(h.at_ i x hx).ok (by have:=(List.getElem?_eq_some_iff.1 hx).1;have:=h.len;omega)
theorem Gb {l:List Ev} (h:pC l) {n:Nat} {y:Ev} (hy:l[n]? = some y):∀(i:Nat) (x:Ev),(l.set n (jk y))[i]? = some x->yd x:=fun i x hx=>by
 have hn:=(List.getElem?_eq_some_iff.1 hy).1
 have h100:=h.len
 by_cases e:n=i
 ·subst e
  rw [List.getElem?_set_self hn] at hx
  cases hx
  obtain ⟨⟨h1,h2,h3,h5,h6,h7⟩,h8,h9⟩:=h.at_ n y hy
  exact yg.ok (i:=n+1) (x:=jk y) ⟨⟨h1,h2,by show y.run+1=_;rw [h3];omega,h5,h6,h7⟩,h8,h9⟩ (by omega)
 ·rw [List.getElem?_set_ne e] at hx
  exact Ib h i x hx
section
variable {a b c d t u D:Int} {J:cr} {l:List Ev} {M:Bool}
theorem H7 {f:List Ev->Ev->Bool}:∀i∈bZ (marks f l l.length) 0,i<=l.length:=fun i hi=>by
 obtain ⟨j,e,hj⟩:=(GI _ 0 i).1 hi
 have:=(List.getElem?_eq_some_iff.1 hj).1
 rw [pZ] at this
 omega
theorem It {L:List cr} {f:List Ev->Ev->Bool}:∀i∈hZ a b c d t u L l f,i<=l.length:=fun i hi=>by
 unfold hZ at hi
 split at hi
 ·exact H7 i hi
 ·cases hi
theorem GZ (hl:l.length<=100):(yF a b c d t u J l D M).length<=10000:=by
 have c1:=mo (a:=a) (b:=b) (c:=c) (d:=d) (t:=t) (u:=u) (L:=[J]) (l:=l) (f:=ir a [J])
 have c2:=mo (a:=a) (b:=b) (c:=c) (d:=d) (t:=t) (u:=u) (L:=[J]) (l:=l) (f:=dz t u [J])
 have c3:=mo (a:=a) (b:=b) (c:=c) (d:=d) (t:=t) (u:=u) (L:=[J]) (l:=l) (f:=eF)
 have bO:=bv (uq D) l l.length
 have bW:=bv (xY J 1000 (1000+D)) l l.length
 have bT:=bv mW l l.length
 have bM:(if M=true then [Value.int .i64 7,Value.int .i64 0] else []).length<=2:=by split<;>simp
 unfold yF gB
 simp only [List.flatten_cons,List.flatten_nil,List.length_append,List.length_nil,cj]
 omega
theorem uP {S:List (List Value)} (h:∀r∈S,jL r):jL S.flatten:=fun v hv=>by
 obtain ⟨r,hr,hv⟩:=List.mem_flatten.1 hv
 exact h r hr v hv
theorem ED (hl:l.length<=100):jL (yF a b c d t u J l D M):=by
 have g:∀{k:Int} {f:List Ev->Ev->Bool},K.i64 k->jL (aV k (bZ (marks f l l.length) 0)):=fun hk=>jL.fl hk fun i hi=>by have:=H7 i hi;omega
 have g2:∀{k:Int} {f:List Ev->Ev->Bool},K.i64 k->jL (aV k (hZ a b c d t u [J] l f)):=fun hk=>jL.fl hk fun i hi=>by have:=It i hi;omega
 have kk:∀k:Int,0<=k->k<=7->K.i64 k:=fun k h1 h2=>dy (by omega) (by omega)
 have gM:jL (if M=true then [Value.int .i64 7,Value.int .i64 0] else []):=fun v hv=>by
  split at hv
  ·simp only [List.mem_cons,List.not_mem_nil,or_false] at hv
   rcases hv with rfl | rfl
   ·exact ⟨7,rfl,kk 7 (by omega) (by omega)⟩
   ·exact ⟨0,rfl,kk 0 (by omega) (by omega)⟩
  ·cases hv
 unfold yF gB
 refine uP fun r hr => ?_
 simp only [List.mem_cons,List.not_mem_nil,or_false] at hr
 rcases hr with rfl | rfl | rfl | rfl | rfl | rfl
 ·exact g (kk 1 (by omega) (by omega))
 ·exact g2 (kk 2 (by omega) (by omega))
 ·exact g2 (kk 3 (by omega) (by omega))
 ·exact g2 (kk 4 (by omega) (by omega))
 ·refine uP fun r hr => ?_
  simp only [List.mem_cons,List.not_mem_nil,or_false] at hr
  rcases hr with rfl | rfl | rfl
  ·exact g (kk 5 (by omega) (by omega))
  ·exact g (kk 6 (by omega) (by omega))
  ·exact gM
 ·exact fun v hv=>by cases hv
theorem CL {M':Bool} (h:M=true↔qU J 1000 (1000+D) l) (h':M'=true↔qU J 1000 (1000+D) l) :
  [aV 1 (bZ (marks (uq D) l l.length) 0),aV 2 (hZ a b c d t u [J] l (ir a [J])),aV 3 (hZ a b c d t u [J] l (dz t u [J])),aV 4 (hZ a b c d t u [J] l eF),qV J 1000 (1000+D) l M',[]].flatten=yF a b c d t u J l D M:=by
 have e:M'=M:=by
  rw [Bool.eq_iff_iff];exact h'.trans h.symm
 subst e
 unfold yF gB qV
 simp only [List.flatten_cons,List.flatten_nil,List.append_assoc,List.append_nil]
end
def w7 (x0:Int) (p:Option Addr) (n c:Nat) (x3:Int) (m:Mem):Prop:=(dJ m ln/\dJ m oH)/\n<=c/\∃L,nV m p n L
def dn (x0:Int) (p:Option Addr) (n c:Nat) (x3:Int) (m:Mem) (b:Bool):Prop:=b=true
def JH:Sp:={ args:=[.i .u8,.sl,.i .u8],grp:=[none,none,none],res:=[.b],rgrp:=[none],fn:=4,spec:=fun a0 a1 a2 a3 a4=>(w7 a0 a1 a2 a3 a4,dn a0 a1 a2 a3 a4) }
def Bg:Prop:=∀m:Mem,∀x0:Int,IntKind.u8.min<=x0->x0<=IntKind.u8.max->∀(p0:Option Addr) (n0 c0:Nat),n0<=9223372036854775807->c0<=9223372036854775807->∀x3:Int,IntKind.u8.min<=x3->x3<=IntKind.u8.max->w7 x0 p0 n0 c0 x3 m->
 (aJ BinOp.rem 16/\∀x4:Int,x4=aq BinOp.rem IntKind.u8 x0 16->(K.u8 x4)/\(∀x5:Int,x5=(bif false then max (n0:Int) 40 else min (n0:Int) 40)->(K.i64 x5)/\(0<=x5/\(x5<=(c0:Int)/\(∃n6_:Nat,(n6_:Int)=x5/\n6_<=9223372036854775807/\(∀x7:Int,x7=(bif false then max (n6_:Int) 100 else min (n6_:Int) 100)->(K.i64 x7)/\(0<=x7/\(x7<=(c0:Int)/\(∃n8_:Nat,(n8_:Int)=x7/\n8_<=9223372036854775807/\(∃F1:Int->Option Addr->Nat->Nat->Int->List Value->Prop×Nat,((K.i64 1000)/\(K.i64 0)/\(F1 1000 none 0 0 0 []).1)/\
 ∀x9:Int,mi<=x9->x9<=ma->∀(p1:Option Addr) (n1 c1:Nat),n1<=9223372036854775807->c1<=9223372036854775807->∀x12:Int,mi<=x12->x12<=ma->∀r0:List Value,(F1 x9 p1 n1 c1 x12 r0).1->
 ((x12<(n8_:Int)->
 (0<=x12/\(p0≠none/\(cw m p0 (0+x12) 1/\(∃x13:Int,ae m p0 (0+x12)=some (Value.int IntKind.u8 x13)/\(K.u8 x13)/\(aJ BinOp.shr 1/\∀x14:Int,x14=aq BinOp.shr IntKind.u8 x13 1->(K.u8 x14)/\(aJ BinOp.rem 16/\∀x15:Int,x15=aq BinOp.rem IntKind.u8 x14 16->(K.u8 x15)/\((x9+x15)<=9223372036854775807/\(aJ BinOp.and 1/\∀x16:Int,x16=aq BinOp.and IntKind.u8 x13 1->(K.u8 x16)/\((x12+1)<=9223372036854775807/\((2*((n1:Int)+1)*64<=281474976710656)/\∀(p2:Addr) (c2:Nat) (r1:List Value),r1=r0++[(vI 1),(vI (x9+x15)),(vI x16),(vI x12),(vI 1),(vI (x12+1)),(vI 0),(vI 0)]->(n1:Int)+1<=(c2:Int)->c2<=9223372036854775807->((x12+1)<=9223372036854775807/\((K.i64 (x9+x15))/\((Int.toNat ((n1:Int)+1))<=9223372036854775807/\c2<=9223372036854775807)/\(mi<=(x12+1)/\(x12+1)<=ma)/\((F1 (x9+x15) ((some p2).map fun p=>p.add 0) (Int.toNat ((n1:Int)+1)) c2 (x12+1) r1).1/\(F1 (x9+x15) ((some p2).map fun p=>p.add 0) (Int.toNat ((n1:Int)+1)) c2 (x12+1) r1).2<(F1 x9 p1 n1 c1 x12 r0).2))))))))))))))/\
 ((n8_:Int)<=x12->
 (∃F2:Int->List Value->Prop×Nat,((K.i64 0)/\(F2 0 r0).1)/\
 ∀x13:Int,mi<=x13->x13<=ma->∀r1:List Value,(F2 x13 r1).1->
 ((x13<(n1:Int)->
 ((1000+x13)<=9223372036854775807/\(0<=x13/\(p1≠none/\((0<=((0+(x13*8))+2)/\((0+(x13*8))+2)+1<=(r1.length:Int))/\∀r2:List Value,r2=aE r1 (((0+(x13*8))+2)).toNat [(vI 0)]->(0<=x13/\(p1≠none/\((0<=((0+(x13*8))+3)/\((0+(x13*8))+3)+1<=(r2.length:Int))/\∀r3:List Value,r3=aE r2 (((0+(x13*8))+3)).toNat [(vI (1000+x13))]->(0<=x13/\(p1≠none/\((0<=((0+(x13*8))+3)/\((0+(x13*8))+3)+1<=(r3.length:Int))/\(∃x14:Int,br r3 ((0+(x13*8))+3)=some (vI x14)/\(K.i64 x14)/\(0<=x13/\(p1≠none/\((0<=((0+(x13*8))+1)/\((0+(x13*8))+1)+1<=(r3.length:Int))/\(∃x15:Int,br r3 ((0+(x13*8))+1)=some (vI x15)/\(K.i64 x15)/\((x15<x14->
 (0<=x13/\(p1≠none/\((0<=((0+(x13*8))+1)/\((0+(x13*8))+1)+1<=(r3.length:Int))/\(0<=x13/\(p1≠none/\((0<=((0+(x13*8))+3)/\((0+(x13*8))+3)+1<=(r3.length:Int))/\∀r4:List Value,r4=aE r3 (((0+(x13*8))+3)).toNat [(vI x15)]->((x13+1)<=9223372036854775807/\((mi<=(x13+1)/\(x13+1)<=ma)/\((F2 (x13+1) r4).1/\(F2 (x13+1) r4).2<(F2 x13 r1).2))))))))))/\
 (x14<=x15->
 ((x13+1)<=9223372036854775807/\((mi<=(x13+1)/\(x13+1)<=ma)/\((F2 (x13+1) r3).1/\(F2 (x13+1) r3).2<(F2 x13 r1).2)))))))))))))))))))))/\
 ((n1:Int)<=x13->
 (∀(p2:Addr) (m3:Mem),ac m m3->bJ m3 (some p2) [(Value.string ⟨List.toArray ([97]:List UInt8)⟩),(vI 2),(Value.int IntKind.u64 0),(Value.int IntKind.u64 0),(Value.int IntKind.u64 0),(Value.int IntKind.u64 0),(Value.int IntKind.u64 0),(Value.int IntKind.u64 0),(Value.bool false),(Value.bool false),(vI 0),(vI (1000+(2+x4))),(vI (2+x4)),(vI 0),(Value.slice none 0 0),(vI 1),(vI 0),(vI 0),(vI 7),(vI 0),(vI 0),(vI 0),(vI 0),(vI 0),(vI 0),(vI 0),(vI 0),(vI 0),(vI 0),(vI 0)]->(∀m4:Mem,ac m3 m4->bJ m4 p1 r1->(∀(p3:Addr) (m5:Mem),ac m4 m5->bJ m5 (some p3) [(vI 1),(vI (x3+1)),(vI 0),(vI 0),(Value.bool false),(Value.string ⟨List.toArray ([]:List UInt8)⟩)]->((1<=9223372036854775807/\1<=9223372036854775807)/\(1<=9223372036854775807/\1<=9223372036854775807)/\(n1<=9223372036854775807/\c1<=9223372036854775807)/\vu 1 10 10 60 0 0 0 ((some p2).map fun p=>p.add 0) 1 1 1000 ((some p3).map fun p=>p.add 0) 1 1 (p1.map fun p=>p.add 0) n1 c1 m5/\∀m6:Mem,ac m5 m6->∀(p4:Option Addr) (n4 c4:Nat),n4<=9223372036854775807->c4<=9223372036854775807->∀x16:Int,mi<=x16->x16<=ma->dQ 1 10 10 60 0 0 0 ((some p2).map fun p=>p.add 0) 1 1 1000 ((some p3).map fun p=>p.add 0) 1 1 (p1.map fun p=>p.add 0) n1 c1 m6 p4 n4 c4 x16->
 ((1<=9223372036854775807/\1<=9223372036854775807)/\(n1<=9223372036854775807/\c1<=9223372036854775807)/\lD 1 10 10 60 0 0 0 ((some p2).map fun p=>p.add 0) 1 1 (p1.map fun p=>p.add 0) n1 c1 m6/\∀m7:Mem,ac m6 m7->∀(p5:Option Addr) (n5 c5:Nat),n5<=9223372036854775807->c5<=9223372036854775807->∀x19:Int,mi<=x19->x19<=ma->fN 1 10 10 60 0 0 0 ((some p2).map fun p=>p.add 0) 1 1 (p1.map fun p=>p.add 0) n1 c1 m7 p5 n5 c5 x19->
 ((1<=9223372036854775807/\1<=9223372036854775807)/\(n1<=9223372036854775807/\c1<=9223372036854775807)/\oe 1 10 10 60 0 0 0 ((some p2).map fun p=>p.add 0) 1 1 (p1.map fun p=>p.add 0) n1 c1 m7/\∀m8:Mem,ac m7 m8->∀(p6:Option Addr) (n6 c6:Nat),n6<=9223372036854775807->c6<=9223372036854775807->∀x22:Int,mi<=x22->x22<=ma->gD 1 10 10 60 0 0 0 ((some p2).map fun p=>p.add 0) 1 1 (p1.map fun p=>p.add 0) n1 c1 m8 p6 n6 c6 x22->
 ((1<=9223372036854775807/\1<=9223372036854775807)/\(n1<=9223372036854775807/\c1<=9223372036854775807)/\od 1 10 10 60 0 0 0 ((some p2).map fun p=>p.add 0) 1 1 (p1.map fun p=>p.add 0) n1 c1 m8/\∀m9:Mem,ac m8 m9->∀(p7:Option Addr) (n7 c7:Nat),n7<=9223372036854775807->c7<=9223372036854775807->∀x25:Int,mi<=x25->x25<=ma->gC 1 10 10 60 0 0 0 ((some p2).map fun p=>p.add 0) 1 1 (p1.map fun p=>p.add 0) n1 c1 m9 p7 n7 c7 x25->
 ((1<=9223372036854775807/\1<=9223372036854775807)/\(n1<=9223372036854775807/\c1<=9223372036854775807)/\rP 1 10 10 60 0 0 0 ((some p2).map fun p=>p.add 0) 1 1 1000 (1000+(x3+1)) (p1.map fun p=>p.add 0) n1 c1 m9/\∀m10:Mem,ac m9 m10->∀(p8:Option Addr) (n8 c8:Nat),n8<=9223372036854775807->c8<=9223372036854775807->∀x28:Int,mi<=x28->x28<=ma->cQ 1 10 10 60 0 0 0 ((some p2).map fun p=>p.add 0) 1 1 1000 (1000+(x3+1)) (p1.map fun p=>p.add 0) n1 c1 m10 p8 n8 c8 x28->
 ((1<=9223372036854775807/\1<=9223372036854775807)/\(n1<=9223372036854775807/\c1<=9223372036854775807)/\oh 1 10 10 60 0 0 0 ((some p2).map fun p=>p.add 0) 1 1 (p1.map fun p=>p.add 0) n1 c1 m10/\∀m11:Mem,ac m10 m11->∀(p9:Option Addr) (n9 c9:Nat),n9<=9223372036854775807->c9<=9223372036854775807->∀x31:Int,mi<=x31->x31<=ma->gF 1 10 10 60 0 0 0 ((some p2).map fun p=>p.add 0) 1 1 (p1.map fun p=>p.add 0) n1 c1 m11 p9 n9 c9 x31->
 (∃F12:Option Addr->Nat->Nat->Int->List Value->Prop×Nat,((K.i64 0)/\(F12 none 0 0 0 []).1)/\
 ∀(p10:Option Addr) (n10 gJ:Nat),n10<=9223372036854775807->gJ<=9223372036854775807->∀x34:Int,mi<=x34->x34<=ma->∀r2:List Value,(F12 p10 n10 gJ x34 r2).1->
 ((x34<(n1:Int)->
 (0<=x34/\(p1≠none/\(cw m11 p1 (0+(x34*8)) 8/\(∃x35:Int,ae m11 p1 ((0+(x34*8))+1)=some (vI x35)/\(K.i64 x35)/\(((1000+(x3+1))<x35->
 ((2*((n10:Int)+1)*16<=281474976710656)/\∀(p11:Addr) (Aq:Nat) (r3:List Value),r3=r2++[(vI 1),(vI x34)]->(n10:Int)+1<=(Aq:Int)->Aq<=9223372036854775807->((x34+1)<=9223372036854775807/\(((Int.toNat ((n10:Int)+1))<=9223372036854775807/\Aq<=9223372036854775807)/\(mi<=(x34+1)/\(x34+1)<=ma)/\((F12 ((some p11).map fun p=>p.add 0) (Int.toNat ((n10:Int)+1)) Aq (x34+1) r3).1/\(F12 ((some p11).map fun p=>p.add 0) (Int.toNat ((n10:Int)+1)) Aq (x34+1) r3).2<(F12 p10 n10 gJ x34 r2).2)))))/\
 (x35<=(1000+(x3+1))->
 ((x34+1)<=9223372036854775807/\((n10<=9223372036854775807/\gJ<=9223372036854775807)/\(mi<=(x34+1)/\(x34+1)<=ma)/\((F12 (p10.map fun p=>p.add 0) n10 gJ (x34+1) r2).1/\(F12 (p10.map fun p=>p.add 0) n10 gJ (x34+1) r2).2<(F12 p10 n10 gJ x34 r2).2))))))))))/\
 ((n1:Int)<=x34->
 (∀m13:Mem,ac m11 m13->bJ m13 p10 r2->(∀(p11:Addr) (m14:Mem),ac m13 m14->bJ m14 (some p11) [(Value.slice (p10.map fun p=>p.add 0) n10 gJ),(Value.slice (p5.map fun p=>p.add 0) n5 c5),(Value.slice (p6.map fun p=>p.add 0) n6 c6),(Value.slice (p7.map fun p=>p.add 0) n7 c7),(Value.slice (p8.map fun p=>p.add 0) n8 c8),(Value.slice (p9.map fun p=>p.add 0) n9 c9)]->((6<=9223372036854775807/\6<=9223372036854775807)/\fq ((some p11).map fun p=>p.add 0) 6 6 m14/\∀m15:Mem,ac m14 m15->∀(p12:Option Addr) (n12 Ar:Nat),n12<=9223372036854775807->Ar<=9223372036854775807->cZ ((some p11).map fun p=>p.add 0) 6 6 m15 p12 n12 Ar->
 ((x16≠0->
 (dn x0 p0 n0 c0 x3 m15 false))/\
 (x16=0->
 ((x19≠0->
 (dn x0 p0 n0 c0 x3 m15 false))/\
 (x19=0->
 ((x22≠0->
 (dn x0 p0 n0 c0 x3 m15 false))/\
 (x22=0->
 ((x25≠0->
 (dn x0 p0 n0 c0 x3 m15 false))/\
 (x25=0->
 ((x28≠0->
 (dn x0 p0 n0 c0 x3 m15 false))/\
 (x28=0->
 ((x31≠0->
 (dn x0 p0 n0 c0 x3 m15 false))/\
 (x31=0->
 ((n4<=9223372036854775807/\c4<=9223372036854775807)/\(n12<=9223372036854775807/\Ar<=9223372036854775807)/\rh (p4.map fun p=>p.add 0) n4 c4 (p12.map fun p=>p.add 0) n12 Ar m15/\∀m16:Mem,ac m15 m16->∀b0:Bool,jS (p4.map fun p=>p.add 0) n4 c4 (p12.map fun p=>p.add 0) n12 Ar m16 b0->
 ((b0=false->
 (dn x0 p0 n0 c0 x3 m16 false))/\
 (b0=true->
 (((n1:Int)=0->
 (rM  m16/\∀m17:Mem,ac m16 m17->∀b1:Bool,pr  m17 b1->
 (dn x0 p0 n0 c0 x3 m17 b1)))/\
 ((n1:Int)≠0->

 (0<=((n1:Int)-1)/\(((n1:Int)-1)<(n1:Int)/\(p1≠none/\((0<=((0+(((n1:Int)-1)*8))+5)/\((0+(((n1:Int)-1)*8))+5)+1<=(r1.length:Int))/\(∃x14:Int,br r1 ((0+(((n1:Int)-1)*8))+5)=some (vI x14)/\(K.i64 x14)/\((x14+1)<=9223372036854775807/\(0<=((n1:Int)-1)/\(((n1:Int)-1)<(n1:Int)/\(p1≠none/\((0<=((0+(((n1:Int)-1)*8))+5)/\((0+(((n1:Int)-1)*8))+5)+1<=(r1.length:Int))/\∀r2:List Value,r2=aE r1 (((0+(((n1:Int)-1)*8))+5)).toNat [(vI (x14+1))]->(∀m4:Mem,ac m3 m4->bJ m4 p1 r2->((1<=9223372036854775807/\1<=9223372036854775807)/\(n1<=9223372036854775807/\c1<=9223372036854775807)/\rQ 1 10 10 60 0 0 0 ((some p2).map fun p=>p.add 0) 1 1 1000 none 0 0 (p1.map fun p=>p.add 0) n1 c1 m4/\∀m5:Mem,ac m4 m5->∀(p3:Option Addr) (n3 c3:Nat),n3<=9223372036854775807->c3<=9223372036854775807->∀x17:Int,mi<=x17->x17<=ma->ml 1 10 10 60 0 0 0 ((some p2).map fun p=>p.add 0) 1 1 1000 none 0 0 (p1.map fun p=>p.add 0) n1 c1 m5 p3 n3 c3 x17->
 ((1<=9223372036854775807/\1<=9223372036854775807)/\(n1<=9223372036854775807/\c1<=9223372036854775807)/\lD 1 10 10 60 0 0 0 ((some p2).map fun p=>p.add 0) 1 1 (p1.map fun p=>p.add 0) n1 c1 m5/\∀m6:Mem,ac m5 m6->∀(p4:Option Addr) (n4 c4:Nat),n4<=9223372036854775807->c4<=9223372036854775807->∀x20:Int,mi<=x20->x20<=ma->fN 1 10 10 60 0 0 0 ((some p2).map fun p=>p.add 0) 1 1 (p1.map fun p=>p.add 0) n1 c1 m6 p4 n4 c4 x20->
 ((x17=0->
 (∀(p5:Addr) (m7:Mem),ac m6 m7->bJ m7 (some p5) [(vI 1),(vI ((n1:Int)-1))]->((n3<=9223372036854775807/\c3<=9223372036854775807)/\(1<=9223372036854775807/\1<=9223372036854775807)/\rh (p3.map fun p=>p.add 0) n3 c3 ((some p5).map fun p=>p.add 0) 1 1 m7/\∀m8:Mem,ac m7 m8->∀b0:Bool,jS (p3.map fun p=>p.add 0) n3 c3 ((some p5).map fun p=>p.add 0) 1 1 m8 b0->
 ((b0=true->
 ((x20=8->
 (rM  m8/\∀m9:Mem,ac m8 m9->∀b1:Bool,pr  m9 b1->
 (dn x0 p0 n0 c0 x3 m9 b1)))/\
 (x20≠8->
 (dn x0 p0 n0 c0 x3 m8 false))))/\
 (b0=false->
 (dn x0 p0 n0 c0 x3 m8 false))))))/\
 (x17≠0->
 (dn x0 p0 n0 c0 x3 m6 false)))))))))))))))))))))))))))))))))))))))))))))))))))))))))))))))
set_option maxHeartbeats 4000000 in
theorem GS:Bg:=by
 intro m x0 a0 b0 p0 n0 c0 hn0 hc0 x3 a3 b3 ⟨⟨gsp,gmx⟩,hnc,L,hL⟩
 have a0:(0:Int)<=x0:=a0
 have b0:x0<=(255:Int):=b0
 have a3:(0:Int)<=x3:=a3
 have b3:x3<=(255:Int):=b3
 have kz:K.i64 0:=by constructor<;>decide
 refine ⟨(by show (16:Int)≠0;decide),fun x4 e4 => ?_⟩
 rw [Fc a0] at e4
 refine ⟨⟨by show (0:Int)<=x4;omega,by show x4<=255;omega⟩,fun x5 e5 => ?_⟩
 have e5:x5=min (n0:Int) 40:=e5
 have hp:2<=2+x4/\2+x4<=17:=by omega
 refine ⟨dy (by omega) (by omega),by omega,by omega,x5.toNat,by omega,by omega,?_⟩
 have hn6:((x5.toNat:Nat):Int)=x5:=by omega
 generalize x5.toNat=n6 at hn6
 intro x7 e7
 have e7:x7=min (n6:Int) 100:=e7
 refine ⟨dy (by omega) (by omega),by omega,by omega,x7.toNat,by omega,by omega,?_⟩
 have hk:((x7.toNat:Nat):Int)=x7:=by omega
 generalize x7.toNat=k at hk
 refine ⟨fun x9 p1 n1 c1 x12 r0=>(∃l:List Ev,x12=(l.length:Int)/\l.length<=k/\wz l/\r0=dK l/\n1=l.length/\n1<=c1/\(1000<=x9/\x9<=1000+15*(l.length:Int))/\(∀(j:Nat) (y:Ev),l[j]? = some y->y.at_<=x9)/\(p1=none->r0=[]),((k:Int)-x12).toNat),
  ⟨by constructor<;>decide,by constructor<;>decide,[],rfl,by simp,wz.nil,rfl,rfl,by omega,⟨by omega,by simp⟩,fun j y h=>by simp at h,fun _=>rfl⟩,?_⟩
 rintro x9 k1 k2 p1 n1 c1 hn1 hc1 x12 k3 k4 r0 ⟨l,rfl,hlk,hl,hr0,rfl,hnc1,⟨ha,hb⟩,hup,hp1⟩
 refine ⟨fun hlt => ?_,fun hge => ?_⟩
 ·obtain ⟨b,hLb,hp,hby,hhas⟩:=hL.at_ (i:=(l.length:Int)) (by omega) (by omega)
  obtain ⟨hb0,hb1⟩:0<=b/\b<=255:=hby.2
  obtain ⟨q1,q2⟩:=F6 hb0 (by omega)
  have s1:=HF hb0
  have hc8:ae m p0 (0+(l.length:Int))=some (.int .u8 b):=aw hby.1 (by omega)
  have hh8:cw m p0 (0+(l.length:Int)) 1:=by
   have e:(0+(l.length:Int)*1)=0+(l.length:Int):=by omega
   rw [<-e];exact hhas
  refine ⟨by omega,hp,hh8,b,hc8,hby.2,(by show (0:Int)<=1;decide),?_⟩
  intro x14 hx14
  rw [s1] at hx14
  refine ⟨⟨by show (0:Int)<=x14;omega,by show x14<=255;omega⟩,(by show (16:Int)≠0;decide),?_⟩
  intro x15 hx15
  rw [Fc (by omega)] at hx15
  have h15:0<=x15/\x15<=15:=by omega
  refine ⟨⟨by show (0:Int)<=x15;omega,by show x15<=255;omega⟩,by omega,trivial,?_⟩
  intro x16 hx16
  rw [<-hx16] at q1 q2
  refine ⟨⟨by show (0:Int)<=x16;omega,by show x16<=255;omega⟩,by omega,by omega,fun p2 c2 r1 hr1 hle hc2=>⟨by omega,dy (by omega) (by omega),⟨by omega,hc2⟩,dy (by omega) (by omega),⟨l++[⟨1,x9+x15,x16,(l.length:Int),1,(l.length:Int)+1,0,0⟩],by simp,(by first | (simp;done) | (simp;omega)),?_,?_,(by first | (simp;done) | (simp;omega)),by omega,⟨by omega,(by first | (simp;done) | (simp;omega))⟩,?_,fun h=>by cases h⟩,by first | omega | (simp only;omega)⟩⟩
  ·refine hl.snoc (by omega) ⟨⟨rfl,rfl,rfl,rfl,rfl,rfl⟩,⟨q1,q2⟩,by show 1000<=x9+x15;omega,by show x9+x15<=_;omega⟩ (fun j y hy=>by have:=hup j y hy;show y.at_<=x9+x15;omega)
  ·rw [hr1,Cs,hr0];rfl
  ·intro j y hy
   rcases Nat.lt_or_ge j l.length with g | g
   ·rw [List.getElem?_append_left g] at hy
    have:=hup j y hy;omega
   ·have hlt:=(List.getElem?_eq_some_iff.1 hy).1
    rw [List.length_append] at hlt
    have e:j=l.length:=by simp at hlt;omega
    subst e
    simp at hy
    subst hy
    exact Int.le_refl _
 -- the launches are made
 have h100:=hl.1.1
 have pne:0<l.length->p1≠none:=fun h hp=>by
  have h0:(dK l).length=0:=by rw [<-hr0,hp1 hp];rfl
  rw [oC] at h0;omega
 refine ⟨fun y r=>(∃(i:Nat) (l2:List Ev),y=(i:Int)/\i<=l.length/\nY l l2 i/\r=dK l2,((l.length:Int)-y).toNat),⟨kz,0,l,rfl,by omega,nY.zero l,hr0⟩,?_⟩
 rintro x13 _ _ r1 ⟨i,l2,rfl,hi,hf,hr1⟩
 have hlen2:=hf.len
 refine ⟨fun hlt => ?_,fun hge2 => ?_⟩
 ·have hx:l[i]? = some (l[i]'(by omega)):=List.getElem?_eq_getElem _
  generalize l[i]'(by omega)=x at hx
  obtain ⟨_,⟨j1,j2⟩,t1,t2⟩:=hl.1.2 i x hx
  have h2:l2[i]? = some x:=by have:=hf.at_ i x hx;rwa [if_neg (by omega)] at this
  have hpn:=pne (by omega)
  have bnd:∀(lx:List Ev) (k:Int),lx.length=l.length->0<=k->k<8->(0<=(((0:Int)+((i:Int)*8))+k)/\(((0:Int)+((i:Int)*8))+k)+1<=((dK lx).length:Int)):=fun lx k e1 e2 e3=>by
   rw [oC,e1];omega
  have tn:∀k:Nat,(((0:Int)+((i:Int)*8))+(k:Int)).toNat=i*8+k:=fun k=>by omega
  have hs:∀y:Ev,(l2.set i y)[i]? = some y:=fun y=>List.getElem?_set_self (by omega)
  have sl:∀y:Ev,(l2.set i y).length=l.length:=fun y=>by rw [List.length_set];exact hlen2
  subst hr1
  refine ⟨by omega,by omega,hpn,bnd _ 2 hlen2 (by omega) (by omega),fun r2 hr2 => ?_⟩
  have f2:r2=dK (l2.set i { x with job:=0 }):=by
   rw [hr2,show (((0:Int)+((i:Int)*8))+2).toNat=i*8+2 from tn 2]
   exact mv (by omega) rfl l2 i h2
  subst f2
  refine ⟨by omega,hpn,bnd _ 3 (sl _) (by omega) (by omega),fun r3 hr3 => ?_⟩
  have f3:r3=dK (l2.set i { x with job:=0,due:=1000+(i:Int) }):=by
   rw [hr3,show (((0:Int)+((i:Int)*8))+3).toNat=i*8+3 from tn 3]
   have:=mv (k:=3) (v := .int .i64 (1000+(i:Int))) (x:={ x with job:=0 }) (y:={ x with job:=0,due:=1000+(i:Int) }) (by omega) rfl _ i (hs { x with job:=0 })
   rw [List.set_set] at this
   exact this
  subst f3
  have d3:=sy (k:=3) (z:=1000+(i:Int)) (hs { x with job:=0,due:=1000+(i:Int) }) (by omega) rfl
  have d1:=sy (k:=1) (z:=x.at_) (hs { x with job:=0,due:=1000+(i:Int) }) (by omega) rfl
  refine ⟨by omega,hpn,bnd _ 3 (sl _) (by omega) (by omega),1000+(i:Int),d3,dy (by omega) (by omega),by omega,hpn,bnd _ 1 (sl _) (by omega) (by omega),x.at_,d1,dy (by omega) (by omega),fun hlt2 => ?_,fun hge3 => ?_⟩
  ·refine ⟨by omega,hpn,bnd _ 1 (sl _) (by omega) (by omega),by omega,hpn,bnd _ 3 (sl _) (by omega) (by omega),fun r4 hr4=>⟨by omega,dy (by omega) (by omega),⟨i+1,_,by omega,by omega,hf.step hx,?_⟩,by first | omega | (simp only;omega)⟩⟩
   rw [hr4,show (((0:Int)+((i:Int)*8))+3).toNat=i*8+3 from tn 3]
   have:=mv (k:=3) (v := .int .i64 x.at_) (x:={ x with job:=0,due:=1000+(i:Int) }) (y:={ x with job:=0,due:=x.at_ }) (by omega) rfl _ i (hs { x with job:=0,due:=1000+(i:Int) })
   rw [List.set_set] at this
   rw [this]
   unfold Eg
   rw [if_pos hlt2]
  ·refine ⟨by omega,dy (by omega) (by omega),⟨i+1,_,by omega,by omega,hf.step hx,?_⟩,by first | omega | (simp only;omega)⟩
   unfold Eg
   rw [if_neg (by omega)]
 -- they are of the one job
 have hii:i=l.length:=by omega
 subst hii
 have hpa:=hf.pa hl
 have hl100:=hpa.len
 clear hup ha hb
 have hpr:p1=none->dK l2=[]:=fun h=>by
  have h0:(dK l).length=0:=by rw [<-hr0,hp1 h];rfl
  rw [oC] at h0
  apply List.length_eq_zero_iff.1
  rw [oC,hlen2];exact h0
 generalize l.length=N at *
 intro p2 m3 hm3 hrow3
 have hjob:cM m3 (some p2) 1 [pT (2+x4)]:=CE hrow3 (GN hp)
 have hEv:=GM hp
 have hCf:=Et hp
 have gsp3:=gsp.sub hm3
 have gmx3:=gmx.sub hm3
 generalize pT (2+x4)=J at hjob hEv hCf
 clear hrow3
 intro m4 hm4 hrow4 p3 m5 hm5 hrow5
 have hT:kG m5 (some p3) (x3+1):=⟨⟨aw (dw hrow5 (j:=0) rfl rfl) (by omega),dy (by omega) (by omega)⟩,⟨aw (dw hrow5 (j:=1) rfl rfl) (by omega),dy (by omega) (by omega)⟩,⟨aw (dw hrow5 (j:=2) rfl rfl) (by omega),kz⟩,⟨aw (dw hrow5 (j:=3) rfl rfl) (by omega),kz⟩,aw (dw hrow5 (j:=4) rfl rfl) (by omega),aw (dw hrow5 (j:=5) rfl rfl) (by omega)⟩
 have hev4:dx m4 p1 N l2:=E0 ⟨by rw [<-hr1];exact hrow4,hpr⟩ (Ib hpa) hlen2
 have hall:∀x∈l2,x.kind=1/\x.attempt=1:=fun x hx=>by
  obtain ⟨i,hi⟩:=List.getElem?_of_mem hx
  have:=(hpa.at_ i x hi).1
  exact ⟨this.1,this.2.1⟩
 have htr:=hpa.trc
 have hau:ol 1 10 10 60 0 0 [J] l2=0:=by
  unfold ol;rw [if_neg (by rw [hCf];simp)];show (iG 1 l2).2=0;rw [htr]
 have he5:=hev4.sub hm5
 have hj5:=(hjob.sub hm4).sub hm5
 have gsp5:=(gsp3.sub hm4).sub hm5
 have gmx5:=(gmx3.sub hm4).sub hm5
 refine ⟨⟨by omega,by omega⟩,⟨by omega,by omega⟩,⟨hn1,hc1⟩,by simp only [ai];exact ⟨⟨⟨gsp5,gmx5⟩,rfl,rfl,rfl,by omega⟩,x3+1,J,l2,hT,⟨by omega,by omega⟩,hj5,he5,hEv,hCf,⟨0,htr.symm⟩,hall⟩,fun m6 hm6 p4 n4 c4 hn4 hc4 x16 _ _ hlk => ?_⟩
 simp only [ai] at hlk
 have he6:=he5.sub hm6
 have hj6:=hj5.sub hm6
 obtain ⟨e16,M,hM,hlkR,hlkN⟩:=hlk _ _ _ (hT.sub hm6) hj6 he6
 refine ⟨⟨by omega,by omega⟩,⟨hn1,hc1⟩,by simp only [ai];exact ⟨⟨gsp5.sub hm6,by omega⟩,[J],l2,hj6,he6⟩,fun m7 hm7 p5 n5 c5 hn5 hc5 x19 _ _ hcap => ?_⟩
 simp only [ai] at hcap
 have he7:=he6.sub hm7
 have hj7:=hj6.sub hm7
 obtain ⟨e19,hcapR,hcapN⟩:=hcap _ _ hj7 he7
 refine ⟨⟨by omega,by omega⟩,⟨hn1,hc1⟩,by simp only [ai];exact ⟨⟨(gsp5.sub hm6).sub hm7,by omega⟩,[J],l2,hj7,he7⟩,fun m8 hm8 p6 n6 c6 hn6 hc6 x22 _ _ hrat => ?_⟩
 simp only [ai] at hrat
 have he8:=he7.sub hm8
 have hj8:=hj7.sub hm8
 obtain ⟨e22,hratR,hratN⟩:=hrat _ _ hj8 he8
 refine ⟨⟨by omega,by omega⟩,⟨hn1,hc1⟩,by simp only [ai];exact ⟨⟨((gsp5.sub hm6).sub hm7).sub hm8,by omega⟩,[J],l2,hj8,he8⟩,fun m9 hm9 p7 n7 c7 hn7 hc7 x25 _ _ hbrk => ?_⟩
 simp only [ai] at hbrk
 have he9:=he8.sub hm9
 have hj9:=hj8.sub hm9
 have up9:ac m5 m9:=((hm6.trans hm7).trans hm8).trans hm9
 obtain ⟨e25,hbrkR,hbrkN⟩:=hbrk _ _ hj9 he9
 refine ⟨⟨by omega,by omega⟩,⟨hn1,hc1⟩,by simp only [ai];exact ⟨⟨⟨gsp5.sub up9,gmx5.sub up9⟩,rfl,⟨by omega,by omega,by omega,by omega⟩,by omega⟩,J,l2,hj9,he9,hEv,hCf,0,htr.symm⟩,fun m10 hm10 p8 n8 c8 hn8 hc8 x28 _ _ hdue => ?_⟩
 simp only [ai] at hdue
 have he10:=he9.sub hm10
 have hj10:=hj9.sub hm10
 obtain ⟨e28,M',hM',hdueR,hdueN⟩:=hdue _ _ hj10 he10
 refine ⟨⟨by omega,by omega⟩,⟨hn1,hc1⟩,by simp only [ai];exact ⟨⟨(gsp5.sub up9).sub hm10,by omega⟩,[J],l2,hj10,he10,hall⟩,fun m11 hm11 p9 n9 c9 hn9 hc9 x31 _ _ hret => ?_⟩
 simp only [ai] at hret
 have he11:=he10.sub hm11
 have hj11:=hj10.sub hm11
 obtain ⟨e31,hretN,_⟩:=hret _ _ hj11 he11
 subst hretN
 have hb1:N<=1000:=by omega
 refine ⟨pH (uq (x3+1)) l2 N 1,⟨kz,0,rfl,by omega,rfl,rfl,fun _=>rfl⟩,?_⟩
 intro p10 n10 gJ hn10 hc10 x34 _ _ r2 hinv
 obtain ⟨i,rfl,hi2,hr2,hn10e,hp10⟩:=hinv
 refine ⟨fun hlt => ?_,fun hge3 => ?_⟩
 ·obtain ⟨x,hx,hpn,hat,hhas⟩:=he11.at_ (i:=(i:Int)) (by omega) hlt
  rw [Int.toNat_natCast] at hx
  obtain ⟨q1,q2,_⟩:=hat
  have hw:uq (x3+1) (l2.take i) x=(decide (x.at_<1000)||decide (1000+(x3+1)<x.at_)):=rfl
  have hx1:=(hpa.at_ i x hx).2.1.1
  rw [decide_eq_false (show ¬x.at_<1000 by omega),Bool.false_or] at hw
  exact ⟨by omega,hpn,hhas,x.at_,q2.1,q2.2,fun h=>AA hx hlen2 hb1 (by rw [hw];exact decide_eq_true h) hr2 hn10e,fun h=>wH hx hlen2 hb1 (by rw [hw];exact decide_eq_false (by omega)) hr2 hn10e hn10 hc10 hp10⟩
 have hii:i=l2.length:=by omega
 subst hii
 intro m13 hm13 hrow13 p11 m14 hm14 hrow14
 have up14:ac m11 m14:=hm13.trans hm14
 have o10:Dx p10 n10 gJ r2:=⟨⟨hn10,hc10⟩,by rw [hr2,cj,hn10e];omega,hp10,fun v h=>by rw [hr2] at h;exact dA h⟩
 have s10:=(o10.frz hrow13).sub hm14
 have s5:nl m14 p5 n5 c5 (aV 2 (hZ 1 10 10 60 0 0 [J] l2 (ir 1 [J]))):=⟨⟨hn5,hc5⟩,by rw [cj,hcapN];omega,((((hcapR.sub hm8).sub hm9).sub hm10).sub hm11).sub up14,fun v h=>dA h⟩
 have s6:nl m14 p6 n6 c6 (aV 3 (hZ 1 10 10 60 0 0 [J] l2 (dz 0 0 [J]))):=⟨⟨hn6,hc6⟩,by rw [cj,hratN];omega,(((hratR.sub hm9).sub hm10).sub hm11).sub up14,fun v h=>dA h⟩
 have s7:nl m14 p7 n7 c7 (aV 4 (hZ 1 10 10 60 0 0 [J] l2 eF)):=⟨⟨hn7,hc7⟩,by rw [cj,hbrkN];omega,((hbrkR.sub hm10).sub hm11).sub up14,fun v h=>dA h⟩
 have l8:(qV J 1000 (1000+(x3+1)) l2 M').length=n8*2:=by
  rw [hdueN]
  unfold qV yn
  rw [List.length_append,List.length_append,cj,cj]
  split<;>simp<;>omega
 have o8:∀v∈qV J 1000 (1000+(x3+1)) l2 M',bK v=some v:=fun v h=>by
  unfold qV at h
  rcases List.mem_append.1 h with h | h
  ·rcases List.mem_append.1 h with h | h
   ·exact dA h
   ·exact dA h
  ·split at h
   ·simp only [List.mem_cons,List.not_mem_nil,or_false] at h
    rcases h with rfl | rfl<;>rfl
   ·cases h
 have s8:nl m14 p8 n8 c8 (qV J 1000 (1000+(x3+1)) l2 M'):=⟨⟨hn8,hc8⟩,l8,(hdueR.sub hm11).sub up14,o8⟩
 have s9:nl m14 p9 0 c9 []:=⟨⟨by omega,hc9⟩,rfl,⟨(fun p _ j x h=>by simp at h),fun _=>rfl⟩,fun v h=>by cases h⟩
 have hpart:=CL (a:=1) (b:=10) (c:=10) (d:=60) (t:=0) (u:=0) hM hM'
 have hlk1:=GZ (a:=1) (b:=10) (c:=10) (d:=60) (t:=0) (u:=0) (J:=J) (D:=x3+1) (M:=M) hl100
 have hlk2:=ED (a:=1) (b:=10) (c:=10) (d:=60) (t:=0) (u:=0) (J:=J) (D:=x3+1) (M:=M) hl100
 rw [<-hr2] at hpart
 generalize yF 1 10 10 60 0 0 J l2 (x3+1) M=R at hlkR hlkN hpart hlk1 hlk2
 obtain ⟨u1,u2⟩:=mO (k:=6) [((p10,n10,gJ),r2),((p5,n5,c5),aV 2 (hZ 1 10 10 60 0 0 [J] l2 (ir 1 [J]))),((p6,n6,c6),aV 3 (hZ 1 10 10 60 0 0 [J] l2 (dz 0 0 [J]))),((p7,n7,c7),aV 4 (hZ 1 10 10 60 0 0 [J] l2 eF)),((p8,n8,c8),qV J 1000 (1000+(x3+1)) l2 M'),((p9,0,c9),[])] rfl (by omega) (by show ([r2,_,_,_,_,_].flatten:List Value).length<=_;rw [hpart];omega) (by simpa only [ai,List.map_cons,List.map_nil] using hrow14) (fun s hs=>by
  simp only [List.mem_cons,List.not_mem_nil,or_false] at hs
  rcases hs with rfl | rfl | rfl | rfl | rfl | rfl<;>assumption)
 have u2:∀(m':Mem) (q':Option Addr) (n' c':Nat),ac m14 m'->cZ ((some p11).map fun p=>p.add 0) 6 6 m' q' n' c'->eg m' q' R/\R.length=n'*2:=fun m' q' n' c' h1 h2=>by
  have:=u2 m' q' n' c' h1 h2
  simp only [List.map_cons,List.map_nil] at this
  rw [hpart] at this
  exact this
 refine ⟨⟨by omega,by omega⟩,u1,fun m15 hm15 p12 n12 Ar hn12 hc12 hcat => ?_⟩
 obtain ⟨v1,v2⟩:=u2 _ _ _ _ hm15 hcat
 refine ⟨fun h=>absurd e16 h,fun _=>⟨fun h=>absurd (e19.trans hau) h,fun _=>⟨fun h=>absurd (e22.trans hau) h,fun _=>⟨fun h=>absurd (e25.trans hau) h,fun _=>⟨fun h=>absurd e28 h,fun _=>⟨fun h=>absurd (e31.trans hau) h,fun _ => ?_⟩⟩⟩⟩⟩⟩
 have up15:ac m6 m15:=(((((hm7.trans hm8).trans hm9).trans hm10).trans hm11).trans up14).trans hm15
 refine ⟨⟨hn4,hc4⟩,⟨hn12,hc12⟩,by simp only [ai];exact ⟨R,by omega,hlkN,by omega,hlkR.sub up15,v1,hlk2⟩,fun m16 hm16 b0 hb0 => ?_⟩
 have hb0:b0=true:=hb0
 refine ⟨fun h=>(by rw [hb0] at h;cases h),fun _=>⟨fun h0=>⟨((gmx5.sub hm6).sub up15).sub hm16,fun m17 hm17 b1 hb1=>hb1⟩,fun hne => ?_⟩⟩
 -- the last run has a wrong number
 clear hcat hret hdue hbrk hrat hcap hlk hrow14 hrow13 hrow5 hrow4
 obtain ⟨n,hn⟩:∃n,N=n+1:=⟨N-1,by omega⟩
 subst hn
 have en:(((n+1:Nat):Int)-1)=(n:Int):=by omega
 simp only [en]
 have hx:l2[n]? = some (l2[n]'(by omega)):=List.getElem?_eq_getElem _
 generalize l2[n]'(by omega)=x at hx
 have hxa:=hpa.at_ n x hx
 have hpn:=pne (by omega)
 have bnd:(0<=(((0:Int)+((n:Int)*8))+5)/\(((0:Int)+((n:Int)*8))+5)+1<=((dK l2).length:Int)):=by
  rw [oC,hlen2];omega
 have d5:=sy (k:=5) (z:=x.run) hx (by omega) rfl
 have hrun:=hxa.1.2.2.1
 subst hr1
 refine ⟨by omega,by omega,hpn,bnd,x.run,d5,dy (by omega) (by omega),by omega,by omega,by omega,hpn,bnd,fun r3 hr3 m4' hm4' hrow4' => ?_⟩
 have f3:r3=dK (l2.set n (jk x)):=by
  rw [hr3,show (((0:Int)+((n:Int)*8))+5).toNat=n*8+5 by omega]
  exact mv (by omega) rfl l2 n hx
 have hbad:=hpa.bad hx hlen2
 have hlen3:(l2.set n (jk x)).length=n+1:=by rw [List.length_set];exact hlen2
 have heB:dx m4' p1 (n+1) (l2.set n (jk x)):=E0 ⟨by rw [<-f3];exact hrow4',fun h=>absurd h hpn⟩ (Gb hpa hx) hlen3
 generalize l2.set n (jk x)=lB at hbad heB
 have gsB:=gsp3.sub hm4'
 have hjB:=hjob.sub hm4'
 refine ⟨⟨by omega,by omega⟩,⟨hn1,hc1⟩,by simp only [ai];exact ⟨⟨gsB,rfl,rfl,rfl,by omega⟩,J,lB,hjB,heB,hCf,by rw [hbad];show (8:Int)≠0;decide⟩,fun m5' hm5' p3' n3 c3 hn3 hc3 x17 _ _ hl2p => ?_⟩
 simp only [ai] at hl2p
 obtain ⟨e17,en3,hrowF⟩:=hl2p _ (heB.sub hm5')
 refine ⟨⟨by omega,by omega⟩,⟨hn1,hc1⟩,by simp only [ai];exact ⟨⟨gsB.sub hm5',by omega⟩,[J],lB,hjB.sub hm5',heB.sub hm5'⟩,fun m6' hm6' p4' n4' c4' _ _ x20 _ _ hcap2 => ?_⟩
 simp only [ai] at hcap2
 obtain ⟨e20,_,_⟩:=hcap2 _ _ ((hjB.sub hm5').sub hm6') ((heB.sub hm5').sub hm6')
 have e20':x20=8:=by
  rw [e20]
  unfold ol
  rw [if_neg (by rw [hCf];simp)]
  show (iG 1 lB).2=8
  rw [hbad]
 refine ⟨fun _ p5' m7' hm7' hrow7 => ?_,fun h=>absurd e17 h⟩
 rw [hbad] at hrowF
 refine ⟨⟨hn3,hc3⟩,⟨by omega,by omega⟩,by simp only [ai];exact ⟨_,en3.symm,by rw [en3];rfl,by omega,(hrowF.sub hm6').sub hm7',⟨hrow7,fun h=>by cases h⟩,fun v hv=>by
  simp only [List.mem_cons,List.not_mem_nil,or_false] at hv
  rcases hv with rfl | rfl
  ·exact ⟨_,rfl,dy (by omega) (by omega)⟩
  ·exact ⟨_,rfl,dy (by omega) (by omega)⟩⟩,fun m8' hm8' b2 hb2 => ?_⟩
 have hb2:b2=true:=hb2
 refine ⟨fun _=>⟨fun _=>⟨(((gmx3.sub hm4').sub hm5').sub hm6').sub (hm7'.trans hm8'),fun m9 hm9 b1 hb1=>hb1⟩,fun h=>absurd e20' h⟩,fun h=>(by rw [hb2] at h;cases h)⟩
theorem GR:cI Tryz.prog JH:=
 Az (aZ [] trivial rfl) (aZ [Jy,yh,Cf,Ce,DH,Cg,vg,JV,Jt] ⟨Im,⟨vt,⟨Aj,⟨Ae,⟨FL,⟨Al,⟨xK,⟨Ea,⟨Fx,trivial⟩⟩⟩⟩⟩⟩⟩⟩⟩ rfl) (aZ [DI,yh,JV,Jt] ⟨FO,⟨vt,⟨Ea,⟨Fx,trivial⟩⟩⟩⟩ rfl) (bC _ [⟨(37,4),[],[],[(3,33)],[]⟩,⟨(219,4),[],[],[],[1]⟩]) (bC _ [⟨(219,19),[],[],[(23,41)],[]⟩]) (bC _ []) 100 JH 5 11 [7] [7,8] _ rfl rfl (by kernel_rfl) (by kernel_rfl) (Eq.mp (show Bg=_ by kernel_rfl) GS)
end
end Go.Proofs.YtjabmipkllkfbaaGreatDoor.Vc
namespace Go.Proofs.YtjabmipkllkfbaaGreatDoor.auditParts
section
open Go.ChangeShapes Go.WideShapes Go.ChangeAt Go.RowKit
-- AuditParts: the se of the law, at a world.
open Vc in
theorem JS (x:Int) (A:Option Addr) (n c:Nat) (y:Int) (hx:(Lit.int .u8 x).wf=true) (hn:n<=c) (hc:c<=maxLen) (hy:(Lit.int .u8 y).wf=true) (W:World) (hT:VRow.VTabs W) (hs:∃l,nV (td W) A n l) :
  Calls Tryz.prog 4 #[.int .u8 x,.slice A n c,.int .u8 y] W fun e W'=>e = .returned (.bool true)/\Below W.heap.size W W':=by
 obtain ⟨l,hl⟩:=hs
 have hm:maxLen=9223372036854775807:=rfl
 have rng:∀{k:IntKind} {a:Int},(Lit.int k a).wf=true->k.min<=a/\a<=k.max:=fun h=>by simpa [Lit.wf] using h
 have:=GR (td W) W [.int .u8 x,.slice A n c,.int .u8 y] _ (fun _ _ h=>h) rfl
  ⟨rfl,rng hx,⟨by omega,by omega⟩,rfl,rng hy,⟨⟨hT.sp,hT.mx⟩,hn,l,hl⟩⟩
 refine this.mono fun e W' h => ?_
 obtain ⟨m',rs,rs',rfl,hp,hb,_,_,hr⟩:=h
 refine ⟨?_,hb⟩
 obtain ⟨_,_,_,_,_,hr⟩:=hr
 match rs,hp,hr with
 | [.bool b],hp,hr=>
  have hb:b=true:=hr
  cases hp
  rw [hb];rfl
set_option maxRecDepth 100000 in
theorem se (H:Type) (enc:TypeId×Value->H) (W:World) (base:Nat) (args:Array Value) (ds gs:List (DataW H)) (before:List MemPlace)
  (hval:∀(j:Nat) t v,Tryz.f4.params[j]? = some t->args[j]? = some v->Value.okWide Tryz.prog W .any base t v)
  (hW:DataW.Whole enc Tryz.prog Tryz.f4.params.toList Rows.auditPartsSpec.vars false W args.toList ds gs before) (hL:laidMetH Tryz.prog Rows.auditPartsRow.laid W) (hS:W.ShapedOpen Tryz.prog) :
  Calls Tryz.prog 4 args W fun e W'=>∃v,e = .returned v/\Rows.auditPartsSpec.post enc Tryz.prog Tryz.f4 false true false false W args v W':=by
 have hT:VRow.VTabs W:=VRow.tabs_of hL hS
 have hW':=hW
 obtain ⟨p,q,hA0,hV,rfl,hfz,hnd⟩:=hW
 have hA:DataW.TrodAll enc Tryz.prog W 0 (fun _=>true) true Tryz.f4.params.toList args.toList ds p:=hA0
 rw [Tryz.params4] at hA hval
 obtain ⟨v0,vs0,d0,ds0,p0,q0,hargs,rfl,rfl,h0,r0⟩:=trodAll_cons hA
 obtain ⟨v1,vs1,d1,ds1,p1,q1,rfl,rfl,rfl,h1,r1⟩:=trodAll_cons r0
 obtain ⟨v2,vs2,d2,ds2,p2,q2,rfl,rfl,rfl,h2,r2⟩:=trodAll_cons r1
 obtain ⟨rfl,rfl,rfl⟩:=trodAll_nil r2
 obtain rfl:args = #[v0,v1,v2]:=by cases args;simp_all
 obtain ⟨rfl,rfl⟩:=trodVars_none hV
 obtain ⟨a0,rfl,rfl,rfl,w0⟩:=open_int Tryz.underlying5 (hval 0 5 v0 rfl rfl) h0
 have h1k:=h1
 obtain ⟨A1,n1,c1,rfl,hn1,hc1,hs1⟩:=VRow.open_u8s (hval 1 46 v1 rfl rfl) h1
 obtain ⟨a2,rfl,rfl,rfl,w2⟩:=open_int Tryz.underlying5 (hval 2 5 v2 rfl rfl) h2
 clear hA0
 simp only [List.append_nil] at hW'
 refine (JS a0 A1 n1 c1 a2 w0 hn1 hc1 w2 W hT hs1).mono fun e W' ⟨he,hb⟩ => ?_
 subst he
 exact ⟨_,rfl,_,_,_,[],_,[],hW',trodAll_cons_mk (shut_bool Tryz.underlying4 _) trodAll_mk0,(trodAll_cons_mk (shut_int Tryz.underlying5 w0) (trodAll_cons_mk (Below.trod (by kernel_rfl) (by kernel_rfl) (of_decide_eq_true (by kernel_rfl)) h1k hb (fun x hx=>hW'.lt x (by first | (simpa using hx;done) | (simp [hx];done)))) (trodAll_cons_mk (shut_int Tryz.underlying5 w2) trodAll_mk0))),rfl,hb.frame _,fun h=>by cases h⟩
set_option maxRecDepth 100000 in
theorem lifted (os:Os) (started:os.Started) (H:Type) (enc:TypeId×Value->H) (F:Stop.Interp) :
  ReturnsInHanded {} Tryz.checked os 4 .any ((OpenSpec.ofChange Rows.auditPartsSpec).preRow enc Tryz.prog Tryz.f4 Rows.auditPartsRow.domain false Rows.auditPartsRow.laid) (((OpenSpec.ofChange Rows.auditPartsSpec).at F).post enc Tryz.prog Tryz.f4 false true false false):=by
 refine returnsInHanded_of_row (C:=Tryz.checked) (s:=OpenSpec.ofChange Rows.auditPartsSpec) VRow.own started (by kernel_rfl) Tryz.func4
  (ChangeSpec.witness_shaped (enc := enc) (C := Tryz.checked) (os := os) (X := fun w _ => laidMetH Tryz.prog VRow.laidL w) false (World.laidAll Tryz.prog os VRow.laidL) #[.int .u8 0, .slice none 0 0, .int .u8 0] 8 (World.laidAll_os _ _ _)
   (VRow.wit_shaped os _) (by kernel_rfl) (by kernel_rfl) (by kernel_rfl) (VRow.wit_laid os _)) ?_
 intro W base args ds gs before hval hW _ _ _ hL hS _
 exact se H enc W base args ds gs before hval hW hL hS
end
end Go.Proofs.YtjabmipkllkfbaaGreatDoor.auditParts
