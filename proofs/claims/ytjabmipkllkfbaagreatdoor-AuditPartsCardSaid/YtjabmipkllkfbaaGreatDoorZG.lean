/-
  Audit, plain: launches that come too early by the running time of a limit are those that some earlier launch forbids. No program in sight; Audit, plain: which events are allowed, as the program asks it and as the document says it; what a trace is. No program in sight; Audit, plain: which configurations are allowed, as the program asks it and as the document says it. No program in sight; The laid variables; The laid variable mix.steps; What lies in the memory that nobody writes; Events, flaws, truth values in the memory that nobody writes; Bytes in the memory that nobody writes.
-/
import Derived.Test.YtjabmipkllkfbaaGreatDoorZF
import Derived.Test.YtjabmipkllkfbaaGreatDoorZT
set_option linter.unusedVariables false
set_option linter.unusedSimpArgs false
namespace Go.Proofs.YtjabmipkllkfbaaGreatDoor
section
namespace As
def eD (T:Int) (L:List Int):Int:=L.foldl (fun nx a=>max nx a+T) 0
theorem qe (T:Int) (L:List Int) (a:Int):eD T (L++[a])=max (eD T L) a+T:=by
 unfold eD;rw [List.foldl_append];rfl
def early (T Tau:Int) (L:List Int) (x:Int):Bool:=decide (0<T)&&decide (x<eD T L-Tau)
structure Ev where
 kind:Int
 at_:Int
 job:Int
 due:Int
 attempt:Int
 run:Int
 why:Int
 when_:Int
 deriving DecidableEq
def iY (x:Ev):Bool:=x.kind==2||x.kind==3
def wv (u:List Ev) (x:Ev):List Ev:=if x.kind=1 then u++[x] else if iY x then u.filter fun y=>decide (y.run≠x.run) else u
def und (l:List Ev):List Ev:=l.foldl wv []
theorem pk (l:List Ev) (x:Ev):und (l++[x])=wv (und l) x:=by unfold und;rw [List.foldl_append];rfl
def fT (l:List Ev):Int:=l.foldl (fun r x=>if x.kind=1 then x.run else r) 0
theorem iL (l:List Ev) (x:Ev):fT (l++[x])=if x.kind=1 then x.run else fT l:=by unfold fT;rw [List.foldl_append];rfl
def DE (p:List Ev) (x:Ev):Prop:=(x.kind=1->x.run=fT p+1)/\(iY x=true->∃u∈und p,u.run=x.run/\u.job=x.job/\u.due=x.due/\u.attempt=x.attempt)
inductive Trace:List Ev->Prop
 | nil:Trace []
 | snoc {l:List Ev} {x:Ev}:Trace l->DE l x->Trace (l++[x])
theorem Ds {l:List Ev} (h:Trace l):0<=fT l/\(und l).Pairwise (fun a b=>a.run<b.run)/\∀u∈und l,1<=u.run/\u.run<=fT l:=by
 induction h with
 | nil=>exact ⟨Int.le_refl _,List.Pairwise.nil,fun u hu=>by cases hu⟩
 | @snoc l x _ hp ih =>
  obtain ⟨h0,h1,h2⟩:=ih
  rw [pk,iL]
  unfold wv
  by_cases hk:x.kind=1
  ·rw [if_pos hk,if_pos hk]
   have hr:=hp.1 hk
   refine ⟨by omega,?_,?_⟩
   ·rw [List.pairwise_append]
    refine ⟨h1,List.pairwise_singleton _ _,fun a ha b hb => ?_⟩
    rw [List.mem_singleton] at hb
    subst hb
    have:=h2 a ha
    omega
   ·intro u hu
    rw [List.mem_append,List.mem_singleton] at hu
    rcases hu with hu | rfl
    ·have:=h2 u hu;omega
    ·omega
  ·rw [if_neg hk,if_neg hk]
   split
   ·exact ⟨h0,h1.filter _,fun u hu=>h2 u (List.mem_filter.1 hu).1⟩
   ·exact ⟨h0,h1,h2⟩
def di (q:Ev->Bool) (l:List Ev):Int:=l.foldl (fun n x=>if x.kind=1 then (if q x then n+1 else n) else if iY x then (if q x then n-1 else n) else n) 0
theorem fg (q:Ev->Bool) (l:List Ev) (x:Ev):di q (l++[x])=if x.kind=1 then (if q x then di q l+1 else di q l) else if iY x then (if q x then di q l-1 else di q l) else di q l:=by unfold di;rw [List.foldl_append];rfl
end As
end
section
namespace As
def timeB (t:Int):Bool:=decide (0<=t)&&decide (t<=253402300799)
def JW (x:Ev):Int:=
 if x.kind<1\/8<x.kind then 2
 else if ¬timeB x.at_=true\/(x.kind<=5/\¬timeB x.due=true) then 14
 else if (x.kind≠6/\(x.job<0\/63<x.job))\/(x.kind=6/\x.job≠0) then 2
 else if (x.kind<=5/\(x.at_<x.due\/x.attempt<1\/21<x.attempt))\/(¬x.kind<=5/\(x.due≠0\/x.attempt≠0)) then 2
 else if (x.kind<=3/\x.run<1)\/(¬x.kind<=3/\x.run≠0)\/(x.kind=4/\x.attempt<2) then 2
 else if ((x.kind=4\/x.kind=7)/\(x.when_<=x.at_\/4611686018427387904<x.when_))\/(¬(x.kind=4\/x.kind=7)/\x.when_≠0) then 2
 else if x.why<(if x.kind=5\/x.kind=6 then 1 else 0)\/(if x.kind=5 then 6 else if x.kind=6 then 16 else 0)<x.why then 2
 else 0
def inU (used:Bool) (n lo hi:Int):Bool:=if used then decide (lo<=n)&&decide (n<=hi) else decide (n=0)
def usesK (k:Int):Bool×Bool×Bool×Bool×Bool×Int:=
 if k=1\/k=2\/k=3 then (true,true,true,false,false,0)
 else if k=4 then (true,true,false,true,false,0)
 else if k=5 then (true,true,false,false,true,6)
 else if k=6 then (false,false,false,false,true,16)
 else if k=7 then (true,false,false,true,false,0)
 else (true,false,false,false,false,0)
def evP (x:Ev):Int:=
 if x.kind<1\/9<=x.kind then 2
 else
  let u:=usesK x.kind
  if ¬timeB x.at_=true\/(u.2.1=true/\¬timeB x.due=true) then 14
  else if (inU u.1 x.job 0 63&&inU u.2.1 x.due 0 x.at_&&inU u.2.1 x.attempt (if x.kind=4 then 2 else 1) 21&&inU u.2.2.1 x.run 1 9223372036854775807&&inU u.2.2.2.1 x.when_ (x.at_+1) 4611686018427387904&&inU u.2.2.2.2.1 x.why 1 u.2.2.2.2.2)=true then 0
  else 2
theorem Gr (x:Ev) (hr:x.run<=9223372036854775807):evP x=JW x:=by
 obtain ⟨k,a,j,d,at',r,w,wh⟩:=x
 simp only at hr
 by_cases h0:k<1\/8<k
 ·unfold evP JW
  simp only
  rw [if_pos (by omega),if_pos h0]
 ·have hk:k=1\/k=2\/k=3\/k=4\/k=5\/k=6\/k=7\/k=8:=by omega
  unfold evP JW usesK inU timeB
  rcases hk with rfl | rfl | rfl | rfl | rfl | rfl | rfl | rfl<;>
   (simp only [Bool.and_eq_true, decide_eq_true_eq]
    simp
    repeat' split
    all_goals (first | rfl | omega))
end As
end
section
namespace As
def inB (n lo hi:Int):Bool:=decide (lo<=n)&&decide (n<=hi)
abbrev spanM:Int:=68719476736
structure Kc where
 t:Int
 tau:Int
 deriving DecidableEq
structure Kb where
 fails:Int
 open_:Int
 probes:Int
 deriving DecidableEq
structure Ke where
 max_:Int
 base:Int
 cap:Int
 jit:Int
 deriving DecidableEq
structure Pol where
 cap:Int
 prio:Int
 splay:Int
 dead:Int
 mis:Int
 keep:Int
 lim:Kc
 brk:Kb
 ret:Ke
 deriving DecidableEq
def ruleE (l:List Bool):Int:=if l.contains false then 16 else 0
def firstE:List Int->Int->Int
 | [],o=>o
 | e::l,o=>if e=10 then 10 else if e≠0 then firstE l 16 else firstE l o
def limP (l:Kc):Int:=ruleE [inB l.t 0 spanM,inB l.tau 0 spanM,decide (0<l.t)||decide (l.tau=0)]
def brkP (b:Kb):Int:=if b=⟨0,0,0⟩ then 0 else ruleE [inB b.fails 1 100,inB b.open_ 1 spanM,inB b.probes 1 100]
def retP_ (x:Ke):Int:=if x=⟨0,0,0,0⟩ then 0 else ruleE [inB x.max_ 1 20,inB x.base 1 spanM,inB x.cap x.base spanM,inB x.jit 0 spanM]
def misP (k n:Int):Int:=if k=3 then ruleE [inB n 1 100] else ruleE [inB k 0 2,decide (n=0)]
def polP (p:Pol):Int:=firstE [ruleE [inB p.cap 1 1000,inB p.prio 0 100,inB p.splay 0 spanM,inB p.dead 0 spanM],misP p.mis p.keep,limP p.lim,brkP p.brk,retP_ p.ret] 0
theorem C9 (l:List Bool):ruleE l=0↔∀b∈l,b=true:=by
 unfold ruleE
 constructor
 ·intro h b hb
  cases b with
  | true=>rfl
  | false=>rw [if_pos (List.contains_iff_mem.2 hb)] at h;cases h
 ·intro h
  rw [if_neg]
  intro hc
  have:=h false (List.contains_iff_mem.1 hc)
  cases this
theorem l5 (l:List Bool):ruleE l=0\/ruleE l=16:=by unfold ruleE;split<;>simp
theorem Cu:∀(l:List Int) (o:Int),(∀e∈l,e=0\/e=16)->(o=0\/o=16)->firstE l o=if o=0/\∀e∈l,e=0 then 0 else 16:=by
 intro l
 induction l with
 | nil=>intro o _ h;rcases h with rfl | rfl<;>simp [firstE]
 | cons e l ih =>
  intro o h ho
  have he:=h e (by simp)
  have hl:=fun x hx=>h x (List.mem_cons_of_mem _ hx)
  rw [firstE]
  rcases he with rfl | rfl
  ·rw [if_neg (by decide),if_neg (by simp),ih o hl ho]
   simp
  ·rw [if_neg (by decide),if_pos (by decide),ih 16 hl (.inr rfl)]
   simp
end As
end
end Go.Proofs.YtjabmipkllkfbaaGreatDoor
namespace Go.Proofs.YtjabmipkllkfbaaGreatDoor.Vc
section
def JY:Nat->List UInt8
 | 0=>[]
 | n+1=>0::JY n
def Ig:List UInt8:=JY 9++([1,1,1,1,1]++(JY 18++(1::JY 223)))
def ln:List (Nat×List AV):=[(1,nq Ig)]
end
section
def J3:List AV:=[.int .i64 (.lit 30),.int .u64 (.lit 13787848793156543929),.int .i64 (.lit 27),.int .u64 (.lit 10723151780598845931),.int .i64 (.lit 31),.int .u64 (.lit 1)]
def oH:List (Nat×List AV):=[(0,J3)]
end
section
theorem jO {m:Mem} {p:Option Addr} {z:Int} {v:Value} (h:ae m p z=some v):∃q o,p=some q/\z=Int.ofNat o/\df m (q.add o)=some v/\bK v=some v:=by
 unfold ae at h
 split at h
 ·rename_i q o
  split at h
  ·rename_i u hu
   have:=(dC h).1;subst this
   exact ⟨q,o,rfl,rfl,hu,h⟩
  ·cases h
 ·cases h
theorem rX {m:Mem} {q:Addr} {o:Nat} {v:Value} (h:df m (q.add o)=some v) (k:bK v=some v):ae m (some q) (Int.ofNat o)=some v:=by
 unfold ae;simp only [h,k]
theorem dl {m m':Mem} (h:ac m m') {p:Option Addr} {z:Int} {v:Value} (k:ae m p z=some v):ae m' p z=some v:=by
 obtain ⟨q,o,rfl,rfl,h1,h2⟩:=jO k
 exact rX (fI h h1) h2
theorem fC {m:Mem} {p:Option Addr} {z:Int} {n:Nat} (hn:0<n) (k:∀j:Nat,j<n->∃v,ae m p (z+j)=some v):p≠none/\cw m p z n:=by
 obtain ⟨v0,h0⟩:=k 0 hn
 obtain ⟨q,o,rfl,ho,h1,h2⟩:=jO h0
 refine ⟨by simp,q,o,rfl,by simpa using ho,fun j hj => ?_⟩
 obtain ⟨v,hv⟩:=k j hj
 obtain ⟨q',o',hq,ho',k1,k2⟩:=jO hv
 cases hq
 refine ⟨v,?_,k2⟩
 rw [add_add]
 have:o+j=o':=by simp at ho ho';omega
 rw [this];exact k1
theorem fV (m:Mem):ac m m:=fun _ _ h=>h
theorem ac.trans {a b c:Mem} (h:ac a b) (k:ac b c):ac a c:=fun x o e=>k x o (h x o e)
def bj (m:Mem) (p:Option Addr) (z:Int) (x:Int):Prop:=ae m p z=some (.int .i64 x)/\IntKind.i64.min<=x/\x<=IntKind.i64.max
theorem bj.sub {m m':Mem} (h:ac m m') {p:Option Addr} {z x:Int} (k:bj m p z x):bj m' p z x:=⟨dl h k.1,k.2⟩
theorem bj.uniq {m m':Mem} (h:ac m m') {p:Option Addr} {z x y:Int} (k:bj m p z x) (k':bj m' p z y):x=y:=by
 have:=dl h k.1
 rw [k'.1] at this;cases this;rfl
def dN (m:Mem) (p:Option Addr) (n:Nat) (S:List (Int×Int)):Prop:=S.length=n/\∀(i:Nat) (a b:Int),S[i]? = some (a,b)->bj m p ((i:Int)*2) a/\bj m p ((i:Int)*2+1) b
theorem dN.sub {m m':Mem} (h:ac m m') {p:Option Addr} {n:Nat} {S:List (Int×Int)} (k:dN m p n S):dN m' p n S:=
 ⟨k.1,fun i a b e=>⟨(k.2 i a b e).1.sub h,(k.2 i a b e).2.sub h⟩⟩
theorem dN.uniq {m m':Mem} (h:ac m m') {p:Option Addr} {n:Nat} {S T:List (Int×Int)} (k:dN m p n S) (k':dN m' p n T):S=T:=by
 apply List.ext_getElem?
 intro i
 by_cases hi:i<n
 ·have h1:S[i]? = some (S[i]'(by rw [k.1];exact hi)):=List.getElem?_eq_getElem _
  have h2:T[i]? = some (T[i]'(by rw [k'.1];exact hi)):=List.getElem?_eq_getElem _
  rw [h1,h2]
  have a1:=k.2 i _ _ (h1.trans (by rfl));have a2:=k'.2 i _ _ (h2.trans (by rfl))
  have e1:=a1.1.uniq h a2.1;have e2:=a1.2.uniq h a2.2
  congr 1
  exact Prod.ext e1 e2
 ·rw [List.getElem?_eq_none (by rw [k.1];omega),List.getElem?_eq_none (by rw [k'.1];omega)]
theorem dN.at_ {m:Mem} {p:Option Addr} {n:Nat} {S:List (Int×Int)} (k:dN m p n S) {i:Int} (h0:0<=i) (h1:i<(n:Int)) :
  ∃a b,S[i.toNat]? = some (a,b)/\p≠none/\bj m p (0+i*2) a/\bj m p (0+i*2+1) b/\cw m p (0+i*2) 2/\cw m p (0+i*2) 1/\cw m p (0+i*2+1) 1:=by
 have hi:i.toNat<S.length:=by rw [k.1];omega
 have e:S[i.toNat]? = some (S[i.toNat]'hi):=List.getElem?_eq_getElem _
 obtain ⟨c1,c2⟩:=k.2 i.toNat _ _ (e.trans (by rfl))
 have hz:((i.toNat:Nat):Int)*2=0+i*2:=by omega
 rw [hz] at c1 c2
 have g1:∀j:Nat,j<1->∃v,ae m p (0+i*2+j)=some v:=fun j hj=>by
  obtain rfl:j=0:=by omega
  exact ⟨_,by simpa using c1.1⟩
 have g2:∀j:Nat,j<1->∃v,ae m p (0+i*2+1+j)=some v:=fun j hj=>by
  obtain rfl:j=0:=by omega
  exact ⟨_,by simpa using c2.1⟩
 have g3:∀j:Nat,j<2->∃v,ae m p (0+i*2+j)=some v:=fun j hj=>by
  rcases (by omega:j=0\/j=1) with rfl | rfl
  ·exact ⟨_,by simpa using c1.1⟩
  ·exact ⟨_,by simpa using c2.1⟩
 exact ⟨_,_,e.trans (by rfl),(fC (by omega) g1).1,c1,c2,(fC (by omega) g3).2,(fC (by omega) g1).2,(fC (by omega) g2).2⟩
end
section
open As
theorem bj.has {m:Mem} {p:Option Addr} {z x:Int} (h:bj m p z x):cw m p z 1:=
 (fC (by omega) fun j hj=>by (obtain rfl:j=0:=(by omega));exact ⟨_,by simpa using h.1⟩).2
theorem bj.ne {m:Mem} {p:Option Addr} {z x:Int} (h:bj m p z x):p≠none:=by
 obtain ⟨q,o,rfl,_⟩:=jO h.1
 simp
def nX (m:Mem) (p:Option Addr) (z:Int) (x:Ev):Prop:=
 bj m p z x.kind/\bj m p (z+1) x.at_/\bj m p (z+2) x.job/\bj m p (z+3) x.due/\bj m p (z+4) x.attempt/\bj m p (z+5) x.run/\bj m p (z+6) x.why/\bj m p (z+7) x.when_
theorem nX.sub {m m':Mem} (h:ac m m') {p:Option Addr} {z:Int} {x:Ev} (k:nX m p z x):nX m' p z x:=
 ⟨k.1.sub h,k.2.1.sub h,k.2.2.1.sub h,k.2.2.2.1.sub h,k.2.2.2.2.1.sub h,k.2.2.2.2.2.1.sub h,k.2.2.2.2.2.2.1.sub h,k.2.2.2.2.2.2.2.sub h⟩
theorem nX.uniq {m m':Mem} (h:ac m m') {p:Option Addr} {z:Int} {x y:Ev} (k:nX m p z x) (k':nX m' p z y):x=y:=by
 obtain ⟨a1,a2,a3,a4,a5,a6,a7,a8⟩:=k
 obtain ⟨b1,b2,b3,b4,b5,b6,b7,b8⟩:=k'
 obtain ⟨x1,x2,x3,x4,x5,x6,x7,x8⟩:=x
 obtain ⟨y1,y2,y3,y4,y5,y6,y7,y8⟩:=y
 have e1:=a1.uniq h b1;have e2:=a2.uniq h b2;have e3:=a3.uniq h b3;have e4:=a4.uniq h b4
 have e5:=a5.uniq h b5;have e6:=a6.uniq h b6;have e7:=a7.uniq h b7;have e8:=a8.uniq h b8
 simp only at e1 e2 e3 e4 e5 e6 e7 e8
 subst e1;subst e2;subst e3;subst e4;subst e5;subst e6;subst e7;subst e8
 rfl
theorem nX.has {m:Mem} {p:Option Addr} {z:Int} {x:Ev} (k:nX m p z x):cw m p z 8:=by
 obtain ⟨a1,a2,a3,a4,a5,a6,a7,a8⟩:=k
 refine (fC (by omega) fun j hj => ?_).2
 rcases (by omega:j=0\/j=1\/j=2\/j=3\/j=4\/j=5\/j=6\/j=7) with rfl | rfl | rfl | rfl | rfl | rfl | rfl | rfl
 ·exact ⟨_,by simpa using a1.1⟩
 ·exact ⟨_,a2.1⟩
 ·exact ⟨_,a3.1⟩
 ·exact ⟨_,a4.1⟩
 ·exact ⟨_,a5.1⟩
 ·exact ⟨_,a6.1⟩
 ·exact ⟨_,a7.1⟩
 ·exact ⟨_,a8.1⟩
def dx (m:Mem) (p:Option Addr) (n:Nat) (l:List Ev):Prop:=l.length=n/\∀(i:Nat) (x:Ev),l[i]? = some x->nX m p ((i:Int)*8) x
theorem dx.sub {m m':Mem} (h:ac m m') {p:Option Addr} {n:Nat} {l:List Ev} (k:dx m p n l):dx m' p n l:=⟨k.1,fun i x e=>(k.2 i x e).sub h⟩
theorem dx.uniq {m m':Mem} (h:ac m m') {p:Option Addr} {n:Nat} {S T:List Ev} (k:dx m p n S) (k':dx m' p n T):S=T:=by
 apply List.ext_getElem?
 intro i
 by_cases hi:i<n
 ·have h1:S[i]? = some (S[i]'(by rw [k.1];exact hi)):=List.getElem?_eq_getElem _
  have h2:T[i]? = some (T[i]'(by rw [k'.1];exact hi)):=List.getElem?_eq_getElem _
  rw [h1,h2]
  congr 1
  exact (k.2 i _ h1).uniq h (k'.2 i _ h2)
 ·rw [List.getElem?_eq_none (by rw [k.1];omega),List.getElem?_eq_none (by rw [k'.1];omega)]
theorem dx.at_ {m:Mem} {p:Option Addr} {n:Nat} {l:List Ev} (k:dx m p n l) {i:Int} (h0:0<=i) (h1:i<(n:Int)) :
  ∃x,l[i.toNat]? = some x/\p≠none/\nX m p (0+i*8) x/\cw m p (0+i*8) 8:=by
 have hi:i.toNat<l.length:=by rw [k.1];omega
 have e:l[i.toNat]? = some (l[i.toNat]'hi):=List.getElem?_eq_getElem _
 have c:=k.2 i.toNat _ e
 have hz:((i.toNat:Nat):Int)*8=0+i*8:=by omega
 rw [hz] at c
 exact ⟨_,e,c.1.ne,c,c.has⟩
theorem u7 {m m':Mem} (h:ac m m') {q:Option Addr} {l:List Value} (k:bJ m q l):bJ m' q l:=fun p hp j x hx=>fI h (k p hp j x hx)
theorem dw {m:Mem} {q:Addr} {l:List Value} (k:bJ m (some q) l) {j:Nat} {x:Value} (hx:l[j]? = some x) (h1:bK x=some x):ae m (some q) (j:Int)=some x:=
 rX (k q rfl j x hx) h1
def eg (m:Mem) (q:Option Addr) (l:List Value):Prop:=bJ m q l/\(q=none->l=[])
theorem eg.sub {m m':Mem} (h:ac m m') {q:Option Addr} {l:List Value} (k:eg m q l):eg m' q l:=⟨u7 h k.1,k.2⟩
theorem eg.int {m:Mem} {q:Option Addr} {l:List Value} (k:eg m q l) {j:Nat} {x:Int} (hx:l[j]? = some (.int .i64 x)) (hr:IntKind.i64.min<=x/\x<=IntKind.i64.max):bj m q (j:Int) x:=by
 cases q with
 | none=>rw [k.2 rfl] at hx;simp at hx
 | some q=>exact ⟨dw k.1 hx rfl,hr⟩
theorem eg.bool {m:Mem} {q:Option Addr} {l:List Value} (k:eg m q l) {j:Nat} {b:Bool} (hx:l[j]? = some (.bool b)):q≠none/\ae m q (j:Int)=some (.bool b)/\cw m q (j:Int) 1:=by
 cases q with
 | none=>rw [k.2 rfl] at hx;simp at hx
 | some q=>
  have hc:=dw k.1 hx rfl
  exact ⟨by simp,hc,(fC (by omega) fun i hi=>by (obtain rfl:i=0:=(by omega));exact ⟨_,by simpa using hc⟩).2⟩
def Ga (B:List Bool):List Value:=B.map Value.bool
def aV (k:Int):List Nat->List Value
 | []=>[]
 | i::l => .int .i64 k :: .int .i64 (i:Int)::aV k l
theorem mw (k:Int):∀(l:List Nat) (i:Nat),aV k (l++[i])=aV k l++[.int .i64 k,.int .i64 (i:Int)]:=by
 intro l
 induction l with
 | nil=>intro i;rfl
 | cons x l ih=>intro i;simp [aV,ih]
theorem cj (k:Int):∀(l:List Nat),(aV k l).length=2*l.length:=by
 intro l
 induction l with
 | nil=>rfl
 | cons x l ih=>simp only [aV,List.length_cons,ih];omega
def bZ:List Bool->Nat->List Nat
 | [],_=>[]
 | b::l,i=>bif b then i::bZ l (i+1) else bZ l (i+1)
theorem wV:∀(l:List Bool) (i:Nat) (b:Bool),bZ (l++[b]) i=bZ l i++(bif b then [i+l.length] else []):=by
 intro l
 induction l with
 | nil=>intro i b;cases b<;>simp [bZ]
 | cons x l ih=>
  intro i b
  cases x<;>cases b<;>simp [bZ,ih,Nat.add_assoc,Nat.add_comm 1]
theorem Ep:∀(l:List Bool) (i:Nat),(bZ l i).length<=l.length:=by
 intro l
 induction l with
 | nil=>intro i;simp [bZ]
 | cons x l ih=>intro i;have:=ih (i+1);cases x<;>simp only [bZ,cond_true,cond_false,List.length_cons]<;>omega
end
section
def nj (m:Mem) (p:Option Addr) (z x:Int):Prop:=ae m p z=some (.int .u8 x)/\IntKind.u8.min<=x/\x<=IntKind.u8.max
theorem nj.has {m:Mem} {p:Option Addr} {z x:Int} (h:nj m p z x):cw m p z 1:=
 (fC (by omega) fun j hj=>by (obtain rfl:j=0:=(by omega));exact ⟨_,by simpa using h.1⟩).2
theorem nj.ne {m:Mem} {p:Option Addr} {z x:Int} (h:nj m p z x):p≠none:=by
 obtain ⟨q,o,rfl,_⟩:=jO h.1
 simp
def nV (m:Mem) (p:Option Addr) (n:Nat) (l:List Int):Prop:=l.length=n/\∀(i:Nat) (x:Int),l[i]? = some x->nj m p (i:Int) x
theorem nV.at_ {m:Mem} {p:Option Addr} {n:Nat} {l:List Int} (k:nV m p n l) {i:Int} (h0:0<=i) (h1:i<(n:Int)) :
  ∃x,l[i.toNat]? = some x/\p≠none/\nj m p (0+i*1) x/\cw m p (0+i*1) 1:=by
 have hi:i.toNat<l.length:=by rw [k.1];omega
 have e:l[i.toNat]? = some (l[i.toNat]'hi):=List.getElem?_eq_getElem _
 have c:=k.2 i.toNat _ e
 have hz:((i.toNat:Nat):Int)=0+i*1:=by omega
 rw [hz] at c
 exact ⟨_,e,c.ne,c,c.has⟩
end
end Go.Proofs.YtjabmipkllkfbaaGreatDoor.Vc
