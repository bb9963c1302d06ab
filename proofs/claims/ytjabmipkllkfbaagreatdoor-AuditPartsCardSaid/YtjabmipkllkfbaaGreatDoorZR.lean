/-
  Contracts, by their trees; audit.Look: parts of its condition.
-/
import Derived.Test.YtjabmipkllkfbaaGreatDoorZN
import Derived.Test.YtjabmipkllkfbaaGreatDoorZM
import Derived.Test.YtjabmipkllkfbaaGreatDoorZF
import Derived.Test.YtjabmipkllkfbaaGreatDoorZP
import Derived.Test.YtjabmipkllkfbaaGreatDoorZQ
set_option linter.unusedVariables false
set_option linter.unusedSimpArgs false
namespace Go.Proofs.YtjabmipkllkfbaaGreatDoor.Vc
section
theorem my {R:List (List Value)} {i:Nat} {r:List Value} (h:R[i]? = some r):(R.take (i+1)).flatten=(R.take i).flatten++r:=by
 obtain ⟨hi,e⟩:=List.getElem?_eq_some_iff.1 h
 have:R.take (i+1)=R.take i++[r]:=by rw [<-e,List.take_append_getElem]
 rw [this,List.flatten_append];simp
theorem oE (R:List (List Value)) (i:Nat):(R.take i).flatten.length<=R.flatten.length:=by
 conv=>rhs;rw [<-List.take_append_drop i R]
 rw [List.flatten_append,List.length_append];omega
def nW (m:Mem) (q:Option Addr) (n:Nat) (R:List (List Value)):Prop:=
 R.length=n/\∀(i:Nat) (r:List Value),R[i]? = some r->∃(p:Option Addr) (k c:Nat),ae m q (i:Int)=some (.slice p k c)/\(k<=9223372036854775807/\c<=9223372036854775807)/\r.length=k*2/\eg m p r/\∀v∈r,bK v=some v
theorem nW.sub {m m':Mem} (h:ac m m') {q:Option Addr} {n:Nat} {R:List (List Value)} (k:nW m q n R):nW m' q n R:=
 ⟨k.1,fun i r hr=>by obtain ⟨p,a,c,k1,k2,k3,k4,k5⟩:=k.2 i r hr;exact ⟨p,a,c,dl h k1,k2,k3,k4.sub h,k5⟩⟩
theorem C8 {m m':Mem} (h:ac m m') {q:Option Addr} {l l':List Value} (k:eg m q l) (k':eg m' q l') (e:l.length=l'.length):l=l':=by
 cases q with
 | none=>rw [k.2 rfl,k'.2 rfl]
 | some q =>
  apply List.ext_getElem? 
  intro j
  cases hx:l[j]? with
  | none=>rw [List.getElem?_eq_none (by rw [<-e];exact List.getElem?_eq_none_iff.1 hx)]
  | some x=>
   obtain ⟨hj,_⟩:=List.getElem?_eq_some_iff.1 hx
   have h1:=fI h (k.1 q rfl j x hx)
   have h2:=k'.1 q rfl j _ (List.getElem?_eq_getElem (by omega:j<l'.length))
   rw [h1] at h2
   rw [List.getElem?_eq_getElem (by omega:j<l'.length)]
   exact h2
theorem nW.uniq {m m':Mem} (h:ac m m') {q:Option Addr} {n:Nat} {R R':List (List Value)} (k:nW m q n R) (k':nW m' q n R'):R=R':=by
 apply List.ext_getElem?
 intro i
 by_cases hi:i<n
 ·have e1:=List.getElem?_eq_getElem (show i<R.length by rw [k.1];exact hi)
  have e2:=List.getElem?_eq_getElem (show i<R'.length by rw [k'.1];exact hi)
  obtain ⟨p,a,c,k1,k2,k3,k4,_⟩:=k.2 i _ e1
  obtain ⟨p',a',c',k1',k2',k3',k4',_⟩:=k'.2 i _ e2
  have e:=iX h k1 k1'
  cases e
  rw [e1,e2,C8 h k4 k4' (by omega)]
 ·rw [List.getElem?_eq_none (by rw [k.1];omega),List.getElem?_eq_none (by rw [k'.1];omega)]
def fq (q:Option Addr) (n c:Nat) (m:Mem):Prop:=n<=1000/\∃R,nW m q n R/\R.flatten.length<=1000000
def cZ (q:Option Addr) (n c:Nat) (m:Mem) (q':Option Addr) (n' c':Nat):Prop:=∀R,nW m q n R->eg m q' R.flatten/\R.flatten.length=n'*2
def wE (R:List (List Value)) (n0:Nat) (p:Option Addr) (n c:Nat) (x:Int) (r:List Value):Prop×Nat:=
 ((∃i:Nat,x=i/\i<=R.length/\r=(R.take i).flatten/\r.length=n*2/\(p=none->r=[])),((n0:Int)-x).toNat)
theorem wF {R:List (List Value)} {n0:Nat} {p p4:Option Addr} {n c n3 c4:Nat} {x:Int} {r r7 s:List Value} (hb:R.flatten.length<=1000000) (hn0:R.length=n0) (hb0:n0<=1000) (h:(wE R n0 p n c x r).1) (hlt:x<(n0:Int)) (hs:R[x.toNat]? = some s) (hl:s.length=n3*2)
  (h7:r7=r.take (((n:Int)).toNat*2)++s) (hp:p4=none->((n:Int)+(n3:Int))=0) (hc4:c4<=9223372036854775807) :
  (x+1)<=9223372036854775807/\((Int.toNat ((n:Int)+(n3:Int)))<=9223372036854775807/\c4<=9223372036854775807)/\K.i64 (x+1)/\(wE R n0 (p4.map fun p=>p.add 0) (Int.toNat ((n:Int)+(n3:Int))) c4 (x+1) r7).1/\(wE R n0 (p4.map fun p=>p.add 0) (Int.toNat ((n:Int)+(n3:Int))) c4 (x+1) r7).2<(wE R n0 p n c x r).2:=by
 obtain ⟨i,rfl,hi,hr,hrl,_⟩:=h
 rw [Int.toNat_natCast] at hs
 have e:=my hs
 have er:r.take (((n:Int)).toNat*2)=r:=List.take_of_length_le (by omega)
 have h7':r7=(R.take (i+1)).flatten:=by rw [h7,er,e,hr]
 have hle:=oE R (i+1)
 have hl7:r7.length=n*2+n3*2:=by rw [h7,er,List.length_append];omega
 have hnn:n*2+n3*2<=1000000:=by rw [<-hl7,h7'];omega
 refine ⟨by omega,⟨by omega,hc4⟩,dy (by omega) (by omega),⟨i+1,by omega,by omega,h7',by omega,fun hq => ?_⟩,by simp only [wE];omega⟩
 rw [ai] at hq
 have:=hp hq
 apply List.length_eq_zero_iff.1
 omega
theorem uF {m:Mem} {p:Option Addr} {r:List Value} (h:eg m p r) (h1:∀v∈r,bK v=some v):∀(j:Nat) (v:Value),r[j]? = some v->ae m p ((0:Int)+(j:Int))=some v:=fun j v hv=>by
 cases p with
 | none=>rw [h.2 rfl] at hv;simp at hv
 | some q=>rw [Int.zero_add];exact dw h.1 hv (h1 v (List.mem_of_getElem? hv))
def vg:Sp:={ args:=[.sl],grp:=[none],res:=[.sl],rgrp:=[none],fn:=19,spec:=fun a0 a1 a2=>(fq a0 a1 a2,cZ a0 a1 a2) }
def xJ:Prop:=∀m:Mem,∀(p0:Option Addr) (n0 c0:Nat),n0<=9223372036854775807->c0<=9223372036854775807->fq p0 n0 c0 m->
 (∃F1:Int->Int->Prop×Nat,((K.i64 0)/\(K.i64 0)/\(F1 0 0).1)/\
 ∀x2:Int,mi<=x2->x2<=ma->∀x3:Int,mi<=x3->x3<=ma->(F1 x2 x3).1->
 ((x3<(n0:Int)->
 (0<=x3/\(p0≠none/\(cw m p0 (0+x3) 1/\(∃(p1:Option Addr) (n1 c1:Nat),ae m p0 (0+x3)=some (Value.slice p1 n1 c1)/\(n1<=9223372036854775807/\c1<=9223372036854775807)/\((x2+(n1:Int))<=9223372036854775807/\(((x2+(n1:Int))<0->
 False /- err 99 -/)/\
 (0<=(x2+(n1:Int))->
 ((x3+1)<=9223372036854775807/\((mi<=(x2+(n1:Int))/\(x2+(n1:Int))<=ma)/\(mi<=(x3+1)/\(x3+1)<=ma)/\((F1 (x2+(n1:Int)) (x3+1)).1/\(F1 (x2+(n1:Int)) (x3+1)).2<(F1 x2 x3).2)))))))))))/\
 ((n0:Int)<=x3->
 ((x2<0->
 False /- err 99 -/)/\
 (0<=x2->
 ((0<(x2-0)->
 (((0:Int)<=0/\(0:Int)<=1000000)/\∀r0:List Value,r0=cP (Int.toNat 0) [(vI 0),(vI 0)]->((0<=(x2-0)/\(x2-0)<=1000000)/\∀r1:List Value,r1=cP ((x2-0)).toNat [(vI 0),(vI 0)]->((2*(x2-0)*(16:Int)<=281474976710656)/\∀(p1:Option Addr) (c1:Nat) (r2:List Value),r2=r0++r1->(x2-0)<=(c1:Int)->c1<=9223372036854775807->(p1=none->(x2-0)=0)->(∃n5_:Nat,(n5_:Int)=0/\n5_<=9223372036854775807/\((0<=(n5_:Int)/\(n5_:Int)*2<=((r2.length:Nat):Int))/\∀r3:List Value,r3=r2.take (((n5_:Int)).toNat*2)->(∃F2:Option Addr->Nat->Nat->Int->List Value->Prop×Nat,((n5_<=9223372036854775807/\c1<=9223372036854775807)/\(K.i64 0)/\(F2 (p1.map fun p=>p.add 0) n5_ c1 0 r3).1)/\
 ∀(p2:Option Addr) (n2 c2:Nat),n2<=9223372036854775807->c2<=9223372036854775807->∀x8:Int,mi<=x8->x8<=ma->∀r4:List Value,(F2 p2 n2 c2 x8 r4).1->
 ((x8<(n0:Int)->
 (0<=x8/\(p0≠none/\(cw m p0 (0+x8) 1/\(∃(p3:Option Addr) (n3 c3:Nat),ae m p0 (0+x8)=some (Value.slice p3 n3 c3)/\(n3<=9223372036854775807/\c3<=9223372036854775807)/\((0<=(n2:Int)/\(n2:Int)*2<=((r4.length:Nat):Int))/\∀r5:List Value,r5=r4.take (((n2:Int)).toNat*2)->(∃r6:List Value,((r6.length:Nat):Int)=(n3:Int)*2/\(∀(j:Nat) (v:Value),r6[j]? = some v->ae m p3 (0+(j:Int))=some v)/\((2*((n2:Int)+(n3:Int))*(16:Int)<=281474976710656)/\∀(p4:Option Addr) (c4:Nat) (r7:List Value),r7=r5++r6->((n2:Int)+(n3:Int))<=(c4:Int)->c4<=9223372036854775807->(p4=none->((n2:Int)+(n3:Int))=0)->((x8+1)<=9223372036854775807/\(((Int.toNat ((n2:Int)+(n3:Int)))<=9223372036854775807/\c4<=9223372036854775807)/\(mi<=(x8+1)/\(x8+1)<=ma)/\((F2 (p4.map fun p=>p.add 0) (Int.toNat ((n2:Int)+(n3:Int))) c4 (x8+1) r7).1/\(F2 (p4.map fun p=>p.add 0) (Int.toNat ((n2:Int)+(n3:Int))) c4 (x8+1) r7).2<(F2 p2 n2 c2 x8 r4).2)))))))))))/\
 ((n0:Int)<=x8->
 (∀m3:Mem,ac m m3->bJ m3 p2 r4->((n2<=9223372036854775807/\c2<=9223372036854775807)/\cZ p0 n0 c0 m3 (p2.map fun p=>p.add 0) n2 c2)))))))))))/\
 ((x2-0)<=0->
 (∃F2:Option Addr->Nat->Nat->Int->List Value->Prop×Nat,((K.i64 0)/\(F2 none 0 0 0 []).1)/\
 ∀(p1:Option Addr) (n1 c1:Nat),n1<=9223372036854775807->c1<=9223372036854775807->∀x6:Int,mi<=x6->x6<=ma->∀r0:List Value,(F2 p1 n1 c1 x6 r0).1->
 ((x6<(n0:Int)->
 (0<=x6/\(p0≠none/\(cw m p0 (0+x6) 1/\(∃(p2:Option Addr) (n2 c2:Nat),ae m p0 (0+x6)=some (Value.slice p2 n2 c2)/\(n2<=9223372036854775807/\c2<=9223372036854775807)/\((0<=(n1:Int)/\(n1:Int)*2<=((r0.length:Nat):Int))/\∀r1:List Value,r1=r0.take (((n1:Int)).toNat*2)->(∃r2:List Value,((r2.length:Nat):Int)=(n2:Int)*2/\(∀(j:Nat) (v:Value),r2[j]? = some v->ae m p2 (0+(j:Int))=some v)/\((2*((n1:Int)+(n2:Int))*(16:Int)<=281474976710656)/\∀(p3:Option Addr) (c3:Nat) (r3:List Value),r3=r1++r2->((n1:Int)+(n2:Int))<=(c3:Int)->c3<=9223372036854775807->(p3=none->((n1:Int)+(n2:Int))=0)->((x6+1)<=9223372036854775807/\(((Int.toNat ((n1:Int)+(n2:Int)))<=9223372036854775807/\c3<=9223372036854775807)/\(mi<=(x6+1)/\(x6+1)<=ma)/\((F2 (p3.map fun p=>p.add 0) (Int.toNat ((n1:Int)+(n2:Int))) c3 (x6+1) r3).1/\(F2 (p3.map fun p=>p.add 0) (Int.toNat ((n1:Int)+(n2:Int))) c3 (x6+1) r3).2<(F2 p1 n1 c1 x6 r0).2)))))))))))/\
 ((n0:Int)<=x6->
 (∀m3:Mem,ac m m3->bJ m3 p1 r0->((n1<=9223372036854775807/\c1<=9223372036854775807)/\cZ p0 n0 c0 m3 (p1.map fun p=>p.add 0) n1 c1))))))))))))
set_option maxHeartbeats 4000000 in
theorem Fe:xJ:=by
 intro m p0 n0 c0 hn0 hc0 ⟨hb0,R,hR,hb⟩
 have hRl:=hR.1
 have kz:K.i64 0:=by constructor<;>decide
 have cell:∀x:Int,0<=x->x<(n0:Int)->∃(s:List Value) (p:Option Addr) (k c:Nat),R[x.toNat]? = some s/\ae m p0 ((0:Int)+x)=some (.slice p k c)/\(k<=9223372036854775807/\c<=9223372036854775807)/\s.length=k*2/\eg m p s/\(∀v∈s,bK v=some v)/\p0≠none/\cw m p0 ((0:Int)+x) 1:=by
  intro x h0 h1
  have e:=List.getElem?_eq_getElem (show x.toNat<R.length by omega)
  obtain ⟨p,k,c,k1,k2,k3,k4,k5⟩:=hR.2 _ _ e
  have hc:ae m p0 ((0:Int)+x)=some (.slice p k c):=by
   rw [Int.zero_add]
   have:((x.toNat:Nat):Int)=x:=by omega
   rw [this] at k1;exact k1
  obtain ⟨a,b⟩:=fC (m:=m) (p:=p0) (z:=(0:Int)+x) (n:=1) (by omega) (fun j hj=>⟨_,by (obtain rfl:j=0:=(by omega));simpa using hc⟩)
  exact ⟨_,p,k,c,e,hc,k2,k3,k4,k5,a,b⟩
 have fin:∀(p:Option Addr) (n c:Nat) (x:Int) (r:List Value),(wE R n0 p n c x r).1->(n0:Int)<=x->∀m3:Mem,ac m m3->bJ m3 p r->cZ p0 n0 c0 m3 (p.map fun p=>p.add 0) n c:=by
  rintro p n c x r ⟨i,rfl,hi,hr,hrl,hp⟩ hge m3 hm3 hrow R' hR'
  have:=hR.uniq hm3 hR'
  subst this
  have:i=R.length:=by omega
  subst this
  rw [List.take_length] at hr
  rw [ai,<-hr]
  exact ⟨⟨hrow,hp⟩,hrl⟩
 refine ⟨fun x y=>(∃i:Nat,y=i/\i<=R.length/\((R.take i).flatten.length:Int)=x*2,((n0:Int)-y).toNat),⟨kz,kz,0,rfl,Nat.zero_le _,rfl⟩,?_⟩
 rintro x2 _ _ x3 _ _ ⟨i,rfl,hi,hx2⟩
 have hle:=oE R i
 refine ⟨fun hlt => ?_,fun hge => ?_⟩
 ·obtain ⟨s,p,k,c,e,hc,hk,hs,_,_,hp0,hh⟩:=cell i (by omega) hlt
  rw [Int.toNat_natCast] at e
  have e2:=my e
  have hle2:=oE R (i+1)
  have hl2:(R.take (i+1)).flatten.length=(R.take i).flatten.length+s.length:=by rw [e2,List.length_append]
  refine ⟨by omega,hp0,hh,p,k,c,hc,hk,by omega,fun h=>by omega,fun _=>⟨by omega,dy (by omega) (by omega),dy (by omega) (by omega),⟨i+1,by omega,by omega,by omega⟩,by simp only;omega⟩⟩
 ·have hii:i=R.length:=by omega
  subst hii
  rw [List.take_length] at hx2
  refine ⟨fun h=>by omega,fun _=>⟨fun hpos=>⟨⟨by omega,by omega⟩,fun r0 hr0=>⟨⟨by omega,by omega⟩,fun r1 hr1=>⟨by omega,fun p1 c1 r2 hr2 _ hc1 hz=>⟨0,rfl,by omega,⟨by omega,by omega⟩,fun r3 hr3 => ?_⟩⟩⟩⟩,fun hz => ?_⟩⟩
  ·have e3:r3=[]:=by rw [hr3];rfl
   subst e3
   refine ⟨wE R n0,⟨⟨by omega,hc1⟩,kz,0,rfl,Nat.zero_le _,rfl,rfl,fun _=>rfl⟩,?_⟩
   intro p n c hn hc x k1 k2 r hinv
   refine ⟨fun hlt => ?_,fun hge=>fun m3 hm3 hrow=>⟨⟨hn,hc⟩,fin p n c x r hinv hge m3 hm3 hrow⟩⟩
   have hinv':=hinv
   obtain ⟨j,rfl,hj,hr,hrl,hp⟩:=hinv
   obtain ⟨s,p3,k,c3,e,hcl,hk,hs,hrm,h1,hp0,hh⟩:=cell j (by omega) hlt
   refine ⟨by omega,hp0,hh,p3,k,c3,hcl,hk,⟨by omega,by omega⟩,fun r5 hr5=>⟨s,by omega,uF hrm h1,?_,fun p4 c4 r7 hr7 _ hc4 hz4=>wF hb hRl hb0 hinv' hlt e hs (by rw [hr7,hr5]) hz4 hc4⟩⟩
   have e2:=my (by rw [Int.toNat_natCast] at e;exact e)
   have hle2:=oE R (j+1)
   have hl2:(R.take (j+1)).flatten.length=(R.take j).flatten.length+s.length:=by rw [e2,List.length_append]
   rw [<-hr] at hl2
   omega
  ·refine ⟨wE R n0,⟨kz,0,rfl,Nat.zero_le _,rfl,rfl,fun _=>rfl⟩,?_⟩
   intro p n c hn hc x k1 k2 r hinv
   refine ⟨fun hlt => ?_,fun hge=>fun m3 hm3 hrow=>⟨⟨hn,hc⟩,fin p n c x r hinv hge m3 hm3 hrow⟩⟩
   have hinv':=hinv
   obtain ⟨j,rfl,hj,hr,hrl,hp⟩:=hinv
   obtain ⟨s,p3,k,c3,e,hcl,hk,hs,hrm,h1,hp0,hh⟩:=cell j (by omega) hlt
   refine ⟨by omega,hp0,hh,p3,k,c3,hcl,hk,⟨by omega,by omega⟩,fun r5 hr5=>⟨s,by omega,uF hrm h1,?_,fun p4 c4 r7 hr7 _ hc4 hz4=>wF hb hRl hb0 hinv' hlt e hs (by rw [hr7,hr5]) hz4 hc4⟩⟩
   have e2:=my (by rw [Int.toNat_natCast] at e;exact e)
   have hle2:=oE R (j+1)
   have hl2:(R.take (j+1)).flatten.length=(R.take j).flatten.length+s.length:=by rw [e2,List.length_append]
   rw [<-hr] at hl2
   omega
theorem Fd:∀m,bG vg.args vg.spec fun r=>r.1 m->bg m []:=fun m _ _ _ _=>trivial
theorem xK:cI Tryz.prog vg:=
 ot [] [] [] rfl (aZ [] trivial rfl) (HM _ [⟨(36,3),[],[],[],[]⟩,⟨(36,11),[],[],[(6,41)],[]⟩]) 1000 vg _ rfl rfl Fd (Eq.mp (show xJ=_ by kernel_rfl) Fe)
end
section
open As
def KE:List St:=[.need (.eq (.var 7) (.lit 1)),.need (.eq (.var 9) (.lit 1000)),.need (.eq (.var 10) (.lit 1)),.opn (.cl 1 (.lit 0)),.opn (.cl 1 (.lit 1)),.opn (.cl 1 (.lit 2)),.opn (.cl 1 (.lit 3)),.is (.cl 1 (.lit 4)) (.bool false),.is (.cl 1 (.lit 5)) (.str []),.need (.eq (.var 14) (.lit 1)),.need (.le (.lit 1) (.var 15)),.need (.le (.var 15) (.lit 256)),.need (.eq (.var 16) (.lit 0)),.need (.eq (.var 17) (.lit 0))]
def kG (m:Mem) (p:Option Addr) (D:Int):Prop:=bj m p 0 1/\bj m p 1 D/\bj m p 2 0/\bj m p 3 0/\ae m p 4=some (.bool false)/\ae m p 5=some (.string ⟨List.toArray ([]:List UInt8)⟩)
theorem kG.sub {m m':Mem} (h:ac m m') {p:Option Addr} {D:Int} (k:kG m p D):kG m' p D:=
 ⟨k.1.sub h,k.2.1.sub h,k.2.2.1.sub h,k.2.2.2.1.sub h,dl h k.2.2.2.2.1,dl h k.2.2.2.2.2⟩
theorem kG.has {m:Mem} {p:Option Addr} {D:Int} (k:kG m p D):p≠none/\cw m p 0 6:=by
 obtain ⟨k0,k1,k2,k3,k4,k5⟩:=k
 refine fC (by omega) fun j hj => ?_
 rw [Int.zero_add]
 rcases (by omega:j=0\/j=1\/j=2\/j=3\/j=4\/j=5) with rfl | rfl | rfl | rfl | rfl | rfl
 ·exact ⟨_,k0.1⟩
 ·exact ⟨_,k1.1⟩
 ·exact ⟨_,k2.1⟩
 ·exact ⟨_,k3.1⟩
 ·exact ⟨_,k4⟩
 ·exact ⟨_,k5⟩
def nl (m:Mem) (p:Option Addr) (n c:Nat) (r:List Value):Prop:=(n<=9223372036854775807/\c<=9223372036854775807)/\r.length=n*2/\eg m p r/\∀v∈r,bK v=some v
def Dx (p:Option Addr) (n c:Nat) (r:List Value):Prop:=(n<=9223372036854775807/\c<=9223372036854775807)/\r.length=n*2/\(p=none->r=[])/\∀v∈r,bK v=some v
theorem nl.sub {m m':Mem} (h:ac m m') {p:Option Addr} {n c:Nat} {r:List Value} (k:nl m p n c r):nl m' p n c r:=⟨k.1,k.2.1,k.2.2.1.sub h,k.2.2.2⟩
theorem Dx.frz {m:Mem} {p:Option Addr} {n c:Nat} {r:List Value} (k:Dx p n c r) (h:bJ m p r):nl m p n c r:=⟨k.1,k.2.1,⟨h,k.2.2.1⟩,k.2.2.2⟩
theorem dA {k:Int}:∀{I:List Nat} {v:Value},v∈aV k I->bK v=some v:=by
 intro I
 induction I with
 | nil=>intro v h;cases h
 | cons i I ih=>
  intro v h
  simp only [aV,List.mem_cons] at h
  rcases h with rfl | rfl | h
  ·rfl
  ·rfl
  ·exact ih h
theorem DS {m:Mem} {q:Addr} (S:List ((Option Addr×Nat×Nat)×List Value)) (h:bJ m (some q) (S.map fun s=>Value.slice s.1.1 s.1.2.1 s.1.2.2)) (hS:∀s∈S,nl m s.1.1 s.1.2.1 s.1.2.2 s.2):nW m (some q) S.length (S.map fun s=>s.2):=by
 refine ⟨by simp,fun i r hr => ?_⟩
 rw [List.getElem?_map] at hr
 cases hs:S[i]? with
 | none=>rw [hs] at hr;cases hr
 | some s=>
  rw [hs] at hr
  simp only [Option.map_some,Option.some.injEq] at hr
  subst hr
  obtain ⟨h1,h2,h3,h4⟩:=hS s (List.mem_of_getElem? hs)
  exact ⟨s.1.1,s.1.2.1,s.1.2.2,dw h (by rw [List.getElem?_map,hs];rfl) rfl,h1,h2,h3,h4⟩
theorem mO {m:Mem} {q:Addr} {k:Nat} (S:List ((Option Addr×Nat×Nat)×List Value)) (hk:S.length=k) (hk0:k<=1000) (hb:((S.map fun s=>s.2).flatten).length<=1000000) (h:bJ m (some q) (S.map fun s=>Value.slice s.1.1 s.1.2.1 s.1.2.2)) (hS:∀s∈S,nl m s.1.1 s.1.2.1 s.1.2.2 s.2) :
  fq ((some q).map fun p=>p.add 0) k k m/\∀m' q' n' c',ac m m'->cZ ((some q).map fun p=>p.add 0) k k m' q' n' c'->eg m' q' ((S.map fun s=>s.2).flatten)/\((S.map fun s=>s.2).flatten).length=n'*2:=by
 have hc:=DS S h hS
 rw [hk] at hc
 rw [ai]
 exact ⟨⟨hk0,_,hc,hb⟩,fun m' q' n' c' hm hp=>hp _ (hc.sub hm)⟩
def Jq (m12:Mem) (r0:List Value) (p3:Option Addr) (n3 c3:Nat) (p4:Option Addr) (n4 c4:Nat) (p5:Option Addr) (n5 c5:Nat) (p6:Option Addr) (n6 c6:Nat) (p7:Option Addr) (n7 c7:Nat) (r1:List Value) (p8:Option Addr) (n8 c8:Nat) (r3:List Value) (p10:Option Addr) (n10 gJ:Nat) (Q:Mem->Option Addr->Nat->Nat->Prop):Prop:=
 (∀m13:Mem,ac m12 m13->bJ m13 p8 r1->(∀m14:Mem,ac m13 m14->bJ m14 p10 r3->(∀(p12:Addr) (Ar:Nat) (m15:Mem),ac m14 m15->bJ m15 (some p12) [(Value.int IntKind.i64 7),(Value.int IntKind.i64 0)]->Ar<=9223372036854775807->(∀(p13:Addr) (m16:Mem),ac m15 m16->bJ m16 (some p13) [(Value.slice (p8.map fun p=>p.add 0) n8 c8),(Value.slice (p10.map fun p=>p.add 0) n10 gJ),(Value.slice ((some p12).map fun p=>p.add 0) 1 Ar)]->((3<=9223372036854775807/\3<=9223372036854775807)/\fq ((some p13).map fun p=>p.add 0) 3 3 m16/\∀m17:Mem,ac m16 m17->∀(p14:Option Addr) (n14 Ix:Nat),n14<=9223372036854775807->Ix<=9223372036854775807->cZ ((some p13).map fun p=>p.add 0) 3 3 m17 p14 n14 Ix->
 (∀m18:Mem,ac m17 m18->bJ m18 p3 r0->(∀(p15:Addr) (m19:Mem),ac m18 m19->bJ m19 (some p15) [(Value.slice (p3.map fun p=>p.add 0) n3 c3),(Value.slice (p4.map fun p=>p.add 0) n4 c4),(Value.slice (p5.map fun p=>p.add 0) n5 c5),(Value.slice (p6.map fun p=>p.add 0) n6 c6),(Value.slice (p14.map fun p=>p.add 0) n14 Ix),(Value.slice (p7.map fun p=>p.add 0) n7 c7)]->((6<=9223372036854775807/\6<=9223372036854775807)/\fq ((some p15).map fun p=>p.add 0) 6 6 m19/\∀m20:Mem,ac m19 m20->∀(p16:Option Addr) (n16 Jo:Nat),n16<=9223372036854775807->Jo<=9223372036854775807->cZ ((some p15).map fun p=>p.add 0) 6 6 m20 p16 n16 Jo->
 ((n16<=9223372036854775807/\Jo<=9223372036854775807)/\(K.i64 0)/\Q m20 (p16.map fun p=>p.add 0) n16 Jo)))))))))
def Jr (m12:Mem) (r0:List Value) (p3:Option Addr) (n3 c3:Nat) (p4:Option Addr) (n4 c4:Nat) (p5:Option Addr) (n5 c5:Nat) (p6:Option Addr) (n6 c6:Nat) (p7:Option Addr) (n7 c7:Nat) (r1:List Value) (p8:Option Addr) (n8 c8:Nat) (r3:List Value) (p10:Option Addr) (n10 gJ:Nat) (Q:Mem->Option Addr->Nat->Nat->Prop):Prop:=
 (∀m13:Mem,ac m12 m13->bJ m13 p8 r1->(∀m14:Mem,ac m13 m14->bJ m14 p10 r3->(∀(p12:Addr) (m15:Mem),ac m14 m15->bJ m15 (some p12) [(Value.slice (p8.map fun p=>p.add 0) n8 c8),(Value.slice (p10.map fun p=>p.add 0) n10 gJ),(Value.slice none 0 0)]->((3<=9223372036854775807/\3<=9223372036854775807)/\fq ((some p12).map fun p=>p.add 0) 3 3 m15/\∀m16:Mem,ac m15 m16->∀(p13:Option Addr) (n13 DO:Nat),n13<=9223372036854775807->DO<=9223372036854775807->cZ ((some p12).map fun p=>p.add 0) 3 3 m16 p13 n13 DO->
 (∀m17:Mem,ac m16 m17->bJ m17 p3 r0->(∀(p14:Addr) (m18:Mem),ac m17 m18->bJ m18 (some p14) [(Value.slice (p3.map fun p=>p.add 0) n3 c3),(Value.slice (p4.map fun p=>p.add 0) n4 c4),(Value.slice (p5.map fun p=>p.add 0) n5 c5),(Value.slice (p6.map fun p=>p.add 0) n6 c6),(Value.slice (p13.map fun p=>p.add 0) n13 DO),(Value.slice (p7.map fun p=>p.add 0) n7 c7)]->((6<=9223372036854775807/\6<=9223372036854775807)/\fq ((some p14).map fun p=>p.add 0) 6 6 m18/\∀m19:Mem,ac m18 m19->∀(p15:Option Addr) (n15 At:Nat),n15<=9223372036854775807->At<=9223372036854775807->cZ ((some p14).map fun p=>p.add 0) 6 6 m19 p15 n15 At->
 ((n15<=9223372036854775807/\At<=9223372036854775807)/\(K.i64 0)/\Q m19 (p15.map fun p=>p.add 0) n15 At))))))))
def gB (r0 R4 R5 R6 r1 r3 T R7:List Value):List Value:=[r0,R4,R5,R6,[r1,r3,T].flatten,R7].flatten
theorem wS {S:List (List Value)} (h:∀r∈S,∀v∈r,bK v=some v):∀v∈S.flatten,bK v=some v:=fun v hv=>by
 obtain ⟨r,hr,hv⟩:=List.mem_flatten.1 hv
 exact h r hr v hv
theorem EE {m16 m18:Mem} {p13:Option Addr} {n13 DO:Nat} {p14:Addr} {r0 X R4 R5 R6 R7:List Value} {p3 p4 p5 p6 p7:Option Addr} {n3 c3 n4 c4 n5 c5 n6 c6 n7 c7:Nat} {Q:Mem->Option Addr->Nat->Nat->Prop}
  (h3:nl m18 p3 n3 c3 r0) (h4:nl m18 p4 n4 c4 R4) (h5:nl m18 p5 n5 c5 R5) (h6:nl m18 p6 n6 c6 R6) (h7:nl m18 p7 n7 c7 R7) (hX:nl m18 p13 n13 DO X) (hb:([r0,R4,R5,R6,X,R7].flatten).length<=1000000)
  (hrow:bJ m18 (some p14) [(Value.slice (p3.map fun p=>p.add 0) n3 c3),(Value.slice (p4.map fun p=>p.add 0) n4 c4),(Value.slice (p5.map fun p=>p.add 0) n5 c5),(Value.slice (p6.map fun p=>p.add 0) n6 c6),(Value.slice (p13.map fun p=>p.add 0) n13 DO),(Value.slice (p7.map fun p=>p.add 0) n7 c7)])
  (hQ:∀m q n c,ac m18 m->eg m q ([r0,R4,R5,R6,X,R7].flatten)->([r0,R4,R5,R6,X,R7].flatten).length=n*2->Q m q n c) :
  ((6 <= 9223372036854775807 /\ 6 <= 9223372036854775807) /\ fq ((some p14).map fun p => p.add 0) 6 6 m18 /\ ∀ m19 : Mem, ac m18 m19 -> ∀ (p15 : Option Addr) (n15 At : Nat), n15 <= 9223372036854775807 -> At <= 9223372036854775807 -> cZ ((some p14).map fun p => p.add 0) 6 6 m19 p15 n15 At ->
   ((n15<=9223372036854775807/\At<=9223372036854775807)/\(K.i64 0)/\Q m19 (p15.map fun p=>p.add 0) n15 At)):=by
 have kz:K.i64 0:=⟨by decide,by decide⟩
 obtain ⟨u1,u2⟩:=mO (k:=6) [((p3,n3,c3),r0),((p4,n4,c4),R4),((p5,n5,c5),R5),((p6,n6,c6),R6),((p13,n13,DO),X),((p7,n7,c7),R7)] rfl (by omega) hb (by simpa only [ai,List.map_cons,List.map_nil] using hrow) (fun s hs=>by
  simp only [List.mem_cons,List.not_mem_nil,or_false] at hs
  rcases hs with rfl | rfl | rfl | rfl | rfl | rfl<;>assumption)
 refine ⟨⟨by omega,by omega⟩,u1,fun m19 h19 p15 n15 At g1 g2 hp=>⟨⟨g1,g2⟩,kz,?_⟩⟩
 obtain ⟨v1,v2⟩:=u2 m19 p15 n15 At h19 hp
 rw [ai]
 exact hQ m19 p15 n15 At h19 v1 v2
theorem IW {m12:Mem} {r0 r1 r3 R4 R5 R6 R7:List Value} {p3 p4 p5 p6 p7 p8 p10:Option Addr} {n3 c3 n4 c4 n5 c5 n6 c6 n7 c7 n8 c8 n10 gJ:Nat} {Q:Mem->Option Addr->Nat->Nat->Prop}
  (h3:Dx p3 n3 c3 r0) (h4:nl m12 p4 n4 c4 R4) (h5:nl m12 p5 n5 c5 R5) (h6:nl m12 p6 n6 c6 R6) (h7:nl m12 p7 n7 c7 R7) (h8:Dx p8 n8 c8 r1) (h10:Dx p10 n10 gJ r3) (hb:(gB r0 R4 R5 R6 r1 r3 [] R7).length<=100000)
  (hQ:∀m q n c,ac m12 m->eg m q (gB r0 R4 R5 R6 r1 r3 [] R7)->(gB r0 R4 R5 R6 r1 r3 [] R7).length=n*2->Q m q n c):Jr m12 r0 p3 n3 c3 p4 n4 c4 p5 n5 c5 p6 n6 c6 p7 n7 c7 r1 p8 n8 c8 r3 p10 n10 gJ Q:=by
 unfold Jr
 intro m13 g13 hr1 m14 g14 hr3 p12 m15 g15 hrow
 have hin:([r1,r3,[]].flatten:List Value).length<=100000:=by
  have e:(gB r0 R4 R5 R6 r1 r3 [] R7).length=r0.length+(R4.length+(R5.length+(R6.length+(([r1,r3,[]].flatten:List Value).length+R7.length)))):=by unfold gB;simp only [List.flatten_cons,List.flatten_nil,List.length_append,List.length_nil];omega
  omega
 have s8:=((h8.frz hr1).sub g14).sub g15
 have s10:=(h10.frz hr3).sub g15
 have s0:nl m15 none 0 0 []:=⟨⟨by omega,by omega⟩,rfl,⟨(fun p h=>by cases h),fun _=>rfl⟩,fun v h=>by cases h⟩
 obtain ⟨u1,u2⟩:=mO (k:=3) [((p8,n8,c8),r1),((p10,n10,gJ),r3),((none,0,0),[])] rfl (by omega) (by simp only [List.map_cons,List.map_nil];omega) (by simpa only [ai,List.map_cons,List.map_nil] using hrow) (fun s hs=>by
  simp only [List.mem_cons,List.not_mem_nil,or_false] at hs
  rcases hs with rfl | rfl | rfl<;>assumption)
 refine ⟨⟨by omega,by omega⟩,u1,fun m16 g16 p13 n13 DO k1 k2 hp m17 g17 hr0 p14 m18 g18 hrow2 => ?_⟩
 obtain ⟨v1,v2⟩:=u2 m16 p13 n13 DO g16 hp
 have up:ac m12 m18:=((((g13.trans g14).trans g15).trans g16).trans g17).trans g18
 exact EE (m16:=m16) ((h3.frz hr0).sub g18) (h4.sub up) (h5.sub up) (h6.sub up) (h7.sub up) ⟨⟨k1,k2⟩,v2,(v1.sub g17).sub g18,wS fun r hr=>by
  simp only [List.map_cons,List.map_nil,List.mem_cons,List.not_mem_nil,or_false] at hr
  rcases hr with rfl | rfl | rfl
  ·exact h8.2.2.2
  ·exact h10.2.2.2
  ·exact fun v h=>by cases h⟩ (by have:=hb;unfold gB at this;simp only [List.map_cons,List.map_nil];omega) hrow2 (fun m q n c hm h1 h2=>hQ m q n c (up.trans hm) h1 h2)
theorem IV {m12:Mem} {r0 r1 r3 R4 R5 R6 R7:List Value} {p3 p4 p5 p6 p7 p8 p10:Option Addr} {n3 c3 n4 c4 n5 c5 n6 c6 n7 c7 n8 c8 n10 gJ:Nat} {Q:Mem->Option Addr->Nat->Nat->Prop}
  (h3:Dx p3 n3 c3 r0) (h4:nl m12 p4 n4 c4 R4) (h5:nl m12 p5 n5 c5 R5) (h6:nl m12 p6 n6 c6 R6) (h7:nl m12 p7 n7 c7 R7) (h8:Dx p8 n8 c8 r1) (h10:Dx p10 n10 gJ r3) (hb:(gB r0 R4 R5 R6 r1 r3 [.int .i64 7,.int .i64 0] R7).length<=100000)
  (hQ:∀m q n c,ac m12 m->eg m q (gB r0 R4 R5 R6 r1 r3 [.int .i64 7,.int .i64 0] R7)->(gB r0 R4 R5 R6 r1 r3 [.int .i64 7,.int .i64 0] R7).length=n*2->Q m q n c):Jq m12 r0 p3 n3 c3 p4 n4 c4 p5 n5 c5 p6 n6 c6 p7 n7 c7 r1 p8 n8 c8 r3 p10 n10 gJ Q:=by
 unfold Jq
 intro m13 g13 hr1 m14 g14 hr3 p12 Ar m15 g15 hmis hc12 p13 m16 g16 hrow
 have hin:([r1,r3,[.int .i64 7,.int .i64 0]].flatten:List Value).length<=100000:=by
  have e:(gB r0 R4 R5 R6 r1 r3 [.int .i64 7,.int .i64 0] R7).length=r0.length+(R4.length+(R5.length+(R6.length+(([r1,r3,[.int .i64 7,.int .i64 0]].flatten:List Value).length+R7.length)))):=by unfold gB;simp only [List.flatten_cons,List.flatten_nil,List.length_append,List.length_nil];omega
  omega
 have s8:=(((h8.frz hr1).sub g14).sub g15).sub g16
 have s10:=((h10.frz hr3).sub g15).sub g16
 have one:∀v∈([.int .i64 7,.int .i64 0]:List Value),bK v=some v:=fun v h=>by
  simp only [List.mem_cons,List.not_mem_nil,or_false] at h
  rcases h with rfl | rfl<;>rfl
 have s0:nl m16 (some p12) 1 Ar [.int .i64 7,.int .i64 0]:=⟨⟨by omega,hc12⟩,rfl,⟨u7 g16 hmis,fun h=>by cases h⟩,one⟩
 obtain ⟨u1,u2⟩:=mO (k:=3) [((p8,n8,c8),r1),((p10,n10,gJ),r3),((some p12,1,Ar),[.int .i64 7,.int .i64 0])] rfl (by omega) (by simp only [List.map_cons,List.map_nil];omega) (by simpa only [ai,List.map_cons,List.map_nil] using hrow) (fun s hs=>by
  simp only [List.mem_cons,List.not_mem_nil,or_false] at hs
  rcases hs with rfl | rfl | rfl<;>assumption)
 refine ⟨⟨by omega,by omega⟩,u1,fun m17 g17 p14 n14 Ix k1 k2 hp m18 g18 hr0 p15 m19 g19 hrow2 => ?_⟩
 obtain ⟨v1,v2⟩:=u2 m17 p14 n14 Ix g17 hp
 have up:ac m12 m19:=(((((g13.trans g14).trans g15).trans g16).trans g17).trans g18).trans g19
 exact EE (m16:=m17) ((h3.frz hr0).sub g19) (h4.sub up) (h5.sub up) (h6.sub up) (h7.sub up) ⟨⟨k1,k2⟩,v2,(v1.sub g18).sub g19,wS fun r hr=>by
  simp only [List.map_cons,List.map_nil,List.mem_cons,List.not_mem_nil,or_false] at hr
  rcases hr with rfl | rfl | rfl
  ·exact h8.2.2.2
  ·exact h10.2.2.2
  ·exact one⟩ (by have:=hb;unfold gB at this;simp only [List.map_cons,List.map_nil];omega) hrow2 (fun m q n c hm h1 h2=>hQ m q n c (up.trans hm) h1 h2)
end
end Go.Proofs.YtjabmipkllkfbaaGreatDoor.Vc
