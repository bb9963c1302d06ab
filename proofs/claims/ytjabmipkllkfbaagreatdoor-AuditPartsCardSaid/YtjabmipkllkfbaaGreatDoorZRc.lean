/-
  Contracts, by their trees; Contracts, by their trees; Contracts, by their trees.
-/
import Derived.Test.YtjabmipkllkfbaaGreatDoorZN
import Derived.Test.YtjabmipkllkfbaaGreatDoorZM
import Derived.Test.YtjabmipkllkfbaaGreatDoorZF
import Derived.Test.YtjabmipkllkfbaaGreatDoorZG
import Derived.Test.YtjabmipkllkfbaaGreatDoorZT
set_option linter.unusedVariables false
set_option linter.unusedSimpArgs false
namespace Go.Proofs.YtjabmipkllkfbaaGreatDoor.Vc
section
def JE:Sp:={ args:=[.b],grp:=[none],res:=[.b],rgrp:=[none],fn:=36,spec:=fun _=>(fun _=>False,fun _ _=>True) }
theorem IG:cI Tryz.prog JE:=fun m w ys xs _ _ h=>by
 obtain ⟨r,h1,h2⟩:=iI (C:=fun (r:(Mem->Prop)×(Mem->mR JE.res Prop))=>¬r.1 m) JE.args JE.spec ys (fun _ h=>h) h
 exact (h1 h2).elim
def J1:List St:=[.need (.eq (.var 7) (.lit 1)),.need (.eq (.var 9) (.lit 1000)),.need (.eq (.var 10) (.lit 0))]
def rQ (a b c d s t u:Int) (p:Option Addr) (n cc:Nat) (y:Int) (p1:Option Addr) (n1 c1:Nat) (p2:Option Addr) (n2 c2:Nat) (m:Mem):Prop:=(dJ m ln/\n=1/\y=1000/\n1=0/\n2<=1000)/\
 ∃J l,cM m p 1 [J]/\dx m p2 n2 l/\gf a b c d t u [J]=0/\(iG 1 l).2≠0
def ml (a b c d s t u:Int) (p:Option Addr) (n cc:Nat) (y:Int) (p1:Option Addr) (n1 c1:Nat) (p2:Option Addr) (n2 c2:Nat) (m:Mem) (q:Option Addr) (n3 c3:Nat) (e:Int):Prop:=
 ∀l,dx m p2 n2 l->e=0/\n3=1/\eg m q [.int .i64 1,.int .i64 (iG 1 l).1]
def DI:Sp:={ args:=[.i .i64,.i .i64,.i .i64,.i .i64,.i .u64,.i .i64,.i .i64,.sl,.i .i64,.sl,.sl],grp:=[some 8,none,none,none],res:=[.sl,.i .i64],rgrp:=[none,none],fn:=14,spec:=fun a0 a1 a2 a3 a4 a5 a6 a7 a8 a9 a10 a11 a12 a13 a14 a15 a16=>(rQ a0 a1 a2 a3 a4 a5 a6 a7 a8 a9 a10 a11 a12 a13 a14 a15 a16,ml a0 a1 a2 a3 a4 a5 a6 a7 a8 a9 a10 a11 a12 a13 a14 a15 a16) }
def Ah:Prop:=∀m:Mem,∀x0:Int,mi<=x0->x0<=ma->∀x1:Int,mi<=x1->x1<=ma->∀x2:Int,mi<=x2->x2<=ma->∀x3:Int,mi<=x3->x3<=ma->∀x4:Int,IntKind.u64.min<=x4->x4<=IntKind.u64.max->∀x5:Int,mi<=x5->x5<=ma->∀x6:Int,mi<=x6->x6<=ma->∀(p0:Option Addr) (n0 c0:Nat),n0<=9223372036854775807->c0<=9223372036854775807->∀x9:Int,mi<=x9->x9<=ma->∀(p1:Option Addr) (n1 c1:Nat),n1<=9223372036854775807->c1<=9223372036854775807->∀(p2:Option Addr) (n2 c2:Nat),n2<=9223372036854775807->c2<=9223372036854775807->rQ x0 x1 x2 x3 x4 x5 x6 p0 n0 c0 x9 p1 n1 c1 p2 n2 c2 m->
 ((n0:Int)=1/\(x9=1000/\((n1:Int)=0/\((1<=9223372036854775807/\c0<=9223372036854775807)/\fw x0 x1 x2 x3 x4 x5 x6 (p0.map fun p=>p.add 0) 1 c0 m/\∀m1:Mem,ac m m1->∀x14:Int,mi<=x14->x14<=ma->aH x0 x1 x2 x3 x4 x5 x6 (p0.map fun p=>p.add 0) 1 c0 m1 x14->
 ((x14≠0->
 ((K.i64 x14)/\ml x0 x1 x2 x3 x4 x5 x6 p0 n0 c0 x9 p1 n1 c1 p2 n2 c2 m1 none 0 0 x14))/\
 (x14=0->
 ((n2<=9223372036854775807/\c2<=9223372036854775807)/\gv (p2.map fun p=>p.add 0) n2 c2 1 m1/\∀m2:Mem,ac m1 m2->∀x15:Int,mi<=x15->x15<=ma->∀x16:Int,mi<=x16->x16<=ma->aI (p2.map fun p=>p.add 0) n2 c2 1 m2 x15 x16->
 ((x16≠0->
 (∀(p3:Addr) (m3:Mem),ac m2 m3->bJ m3 (some p3) [(vI 1),(vI x15)]->((1<=9223372036854775807/\1<=9223372036854775807)/\(K.i64 0)/\ml x0 x1 x2 x3 x4 x5 x6 p0 n0 c0 x9 p1 n1 c1 p2 n2 c2 m3 ((some p3).map fun p=>p.add 0) 1 1 0)))/\
 (x16=0->
 False /- err 110 -/)))))))))
set_option maxHeartbeats 4000000 in
theorem FQ:Ah:=by
 intro m x0 _ _ x1 _ _ x2 _ _ x3 _ _ x4 _ _ x5 _ _ x6 _ _ p0 n0 c0 hn0 hc0 x9 _ _ p1 n1 c1 hn1 hc1 p2 n2 c2 hn2 hc2 hpre
 obtain ⟨⟨hgs,hone,hy,hops,hb1⟩,J,l,hJ,hl,hcf,htr⟩:=hpre
 subst hone;subst hops
 have kz:K.i64 0:=⟨by decide,by decide⟩
 refine ⟨rfl,hy,rfl,⟨by omega,hc0⟩,⟨hgs,[J],by rw [ai];exact hJ⟩,fun m1 hm1 x14 _ _ hc1' => ?_⟩
 rw [ai] at hc1'
 have e14:x14=0:=(hc1' [J] (hJ.sub hm1)).trans hcf
 refine ⟨fun h=>absurd e14 h,fun _=>⟨⟨hn2,hc2⟩,⟨l,by rw [ai];exact hl.sub hm1⟩,fun m2 hm2 x15 _ _ x16 _ _ ht => ?_⟩⟩
 rw [ai] at ht
 have e:=ht l ((hl.sub hm1).sub hm2)
 refine ⟨fun _=>fun p3 m3 hm3 hrow=>⟨⟨by omega,by omega⟩,kz,?_⟩,fun h => ?_⟩
 ·intro l' hl'
  have el:l=l':=hl.uniq ((hm1.trans hm2).trans hm3) hl'
  subst el
  rw [ai]
  refine ⟨rfl,rfl,⟨?_,fun h=>by cases h⟩⟩
  have e1:x15=(iG 1 l).1:=congrArg Prod.fst e
  rw [<-e1]
  exact hrow
 ·exact htr (by have:=congrArg Prod.snd e;simp only at this;rw [<-this];exact h)
theorem FP:∀m,bG DI.args DI.spec fun r=>r.1 m->bg m []:=fun m _ _ _ _ _ _ _ _ _ _ _ _ _ _ _ _ _ _=>trivial
theorem FO:cI Tryz.prog DI:=
 vy [] J1 rfl (aZ [vv,wu,JE] ⟨kJ,⟨kZ,⟨IG,trivial⟩⟩⟩ rfl) (bC _ []) 1000 DI _ rfl rfl FP (Eq.mp (show Ah=_ by kernel_rfl) FQ)
end
section
def jL (r:List Value):Prop:=∀v∈r,∃z:Int,v = .int .i64 z/\K.i64 z
theorem jL.fl {k:Int} (hk:K.i64 k):∀{I:List Nat},(∀i∈I,i<=1000000)->jL (aV k I):=by
 intro I
 induction I with
 | nil=>intro _ v h;cases h
 | cons i I ih=>
  intro h v hv
  simp only [aV,List.mem_cons] at hv
  rcases hv with rfl | rfl | hv
  ·exact ⟨_,rfl,hk⟩
  ·exact ⟨_,rfl,by have:=h i (List.mem_cons_self ..);exact dy (by omega) (by omega)⟩
  ·exact ih (fun i hi=>h i (List.mem_cons_of_mem _ hi)) v hv
theorem jL.at {m:Mem} {q:Option Addr} {r:List Value} (h:jL r) (hr:eg m q r) {j:Nat} (hj:j<r.length):∃z,r[j]? = some (.int .i64 z)/\bj m q (j:Int) z:=by
 obtain ⟨z,e,hz⟩:=h _ (List.getElem_mem hj)
 have e':r[j]? = some (.int .i64 z):=by rw [List.getElem?_eq_getElem hj,e]
 exact ⟨z,e',hr.int e' hz⟩
def rh (p:Option Addr) (n c:Nat) (p1:Option Addr) (n1 c1:Nat) (m:Mem):Prop:=∃r,n1=n/\r.length=n*2/\n<=1000000/\eg m p r/\eg m p1 r/\jL r
def jS (p:Option Addr) (n c:Nat) (p1:Option Addr) (n1 c1:Nat) (m:Mem) (b:Bool):Prop:=b=true
def JV:Sp:={ args:=[.sl,.sl],grp:=[none,none],res:=[.b],rgrp:=[none],fn:=10,spec:=fun a0 a1 a2 a3 a4 a5=>(rh a0 a1 a2 a3 a4 a5,jS a0 a1 a2 a3 a4 a5) }
def D9:Prop:=∀m:Mem,∀(p0:Option Addr) (n0 c0:Nat),n0<=9223372036854775807->c0<=9223372036854775807->∀(p1:Option Addr) (n1 c1:Nat),n1<=9223372036854775807->c1<=9223372036854775807->rh p0 n0 c0 p1 n1 c1 m->
 (((n0:Int)≠(n1:Int)->
 (jS p0 n0 c0 p1 n1 c1 m false))/\
 ((n0:Int)=(n1:Int)->
 (∃F1:Bool->Int->Prop×Nat,((K.i64 0)/\(F1 false 0).1)/\
 ∀b0:Bool,∀x4:Int,mi<=x4->x4<=ma->(F1 b0 x4).1->
 ((x4<(n0:Int)->
 (0<=x4/\(p0≠none/\(cw m p0 (0+(x4*2)) 2/\(0<=x4/\(x4<(n1:Int)/\(p1≠none/\(cw m p1 (0+(x4*2)) 2/\(∃x5:Int,ae m p0 (0+(x4*2))=some (vI x5)/\(K.i64 x5)/\(∃x6:Int,ae m p1 (0+(x4*2))=some (vI x6)/\(K.i64 x6)/\(∃x7:Int,ae m p0 ((0+(x4*2))+1)=some (vI x7)/\(K.i64 x7)/\(∃x8:Int,ae m p1 ((0+(x4*2))+1)=some (vI x8)/\(K.i64 x8)/\(((x5=x6->x7≠x8)->
 (jS p0 n0 c0 p1 n1 c1 m false))/\
 ((x5=x6/\x7=x8)->
 ((x4+1)<=9223372036854775807/\((mi<=(x4+1)/\(x4+1)<=ma)/\((F1 b0 (x4+1)).1/\(F1 b0 (x4+1)).2<(F1 b0 x4).2)))))))))))))))))/\
 ((n0:Int)<=x4->
 (jS p0 n0 c0 p1 n1 c1 m true))))))
set_option maxHeartbeats 4000000 in
theorem IB:D9:=by
 intro m p n c hn hc p1 n1 c1 hn1 hc1 ⟨r,e1,e2,hb,h1,h2,hI⟩
 subst e1
 refine ⟨fun h=>absurd (by omega) h,fun _=>⟨fun b y=>(∃i:Nat,y=i/\i<=n1,((n1:Int)-y).toNat),⟨by constructor<;>decide,0,rfl,by omega⟩,?_⟩⟩
 rintro b y ky1 ky2 ⟨i,rfl,hi⟩
 refine ⟨fun hlt => ?_,fun _=>rfl⟩
 obtain ⟨z1,g1,a1⟩:=hI.at h1 (show 2*i<r.length by omega)
 obtain ⟨z2,g2,a2⟩:=hI.at h1 (show 2*i+1<r.length by omega)
 obtain ⟨z3,g3,b1⟩:=hI.at h2 (show 2*i<r.length by omega)
 obtain ⟨z4,g4,b2⟩:=hI.at h2 (show 2*i+1<r.length by omega)
 rw [g1] at g3;cases g3
 rw [g2] at g4;cases g4
 have a1:=a1.to (b:=0+(i:Int)*2) (by omega)
 have a2:=a2.to (b:=(0+(i:Int)*2)+1) (by omega)
 have b1:=b1.to (b:=0+(i:Int)*2) (by omega)
 have b2:=b2.to (b:=(0+(i:Int)*2)+1) (by omega)
 have two:∀{q:Option Addr} {x y:Int},bj m q (0+(i:Int)*2) x->bj m q ((0+(i:Int)*2)+1) y->cw m q (0+(i:Int)*2) 2:=by
  intro q x y u v
  refine (fC (by omega) fun j hj => ?_).2
  rcases (by omega:j=0\/j=1) with rfl | rfl
  ·exact ⟨_,by simpa using u.1⟩
  ·exact ⟨_,v.1⟩
 exact ⟨by omega,a1.ne,two a1 a2,by omega,by omega,b1.ne,two b1 b2,_,a1.1,a1.2,_,b1.1,b1.2,_,a2.1,a2.2,_,b2.1,b2.2,fun h=>absurd rfl (h rfl),fun _=>⟨by omega,dy (by omega) (by omega),⟨i+1,by omega,by omega⟩,by first | omega | (simp only;omega)⟩⟩
theorem Ea:cI Tryz.prog JV:=
 cX (aZ [] trivial rfl) (bC _ [⟨(26,4),[],[],[],[]⟩]) 1000 JV _ rfl rfl (Eq.mp (show D9=_ by kernel_rfl) IB)
end
section
def rM (m:Mem):Prop:=dJ m oH
def pr (m:Mem) (b:Bool):Prop:=b=true
def Jt:Sp:={ args:=[],grp:=[],res:=[.b],rgrp:=[none],fn:=11,spec:=(rM , pr ) }
def Fw:Prop:=∀m:Mem,rM  m->
 (pr  m true)
set_option maxHeartbeats 4000000 in
theorem Jj:Fw:=fun m h=>rfl
theorem Ji:∀m,bG Jt.args Jt.spec fun r=>r.1 m->bg m oH:=fun m h=>h.h
theorem Fx:cI Tryz.prog Jt:=
 Ay oH rfl (aZ [] trivial rfl) (bC _ []) 1000 Jt _ rfl rfl Ji (Eq.mp (show Fw=_ by kernel_rfl) Jj)
end
end Go.Proofs.YtjabmipkllkfbaaGreatDoor.Vc
