/-
  Contracts, by their trees.
-/
import Derived.Test.YtjabmipkllkfbaaGreatDoorZJ
import Derived.Test.YtjabmipkllkfbaaGreatDoorZG
set_option linter.unusedVariables false
set_option linter.unusedSimpArgs false
namespace Go.Proofs.YtjabmipkllkfbaaGreatDoor.Vc
section
theorem rV (x f:BitVec 64):x &&& ~~~f=0#64↔x &&& f=x:=by
 constructor
 ·intro h
  apply BitVec.eq_of_getLsbD_eq
  intro i hi
  have:=congrArg (fun v=>v.getLsbD i) h
  simp only [BitVec.getLsbD_and,BitVec.getLsbD_not,BitVec.getLsbD_zero,hi,decide_true,Bool.true_and] at this
  simp only [BitVec.getLsbD_and]
  cases hx:x.getLsbD i<;>cases hf:f.getLsbD i<;>simp_all
 ·intro h
  apply BitVec.eq_of_getLsbD_eq
  intro i hi
  have:=congrArg (fun v=>v.getLsbD i) h
  simp only [BitVec.getLsbD_and] at this
  simp only [BitVec.getLsbD_and,BitVec.getLsbD_not,BitVec.getLsbD_zero,hi,decide_true,Bool.true_and]
  cases hx:x.getLsbD i<;>cases hf:f.getLsbD i<;>simp_all
theorem Fv (v:BitVec 64):IntKind.u64.wrap (v.toNat:Int)=(v.toNat:Int):=hD (by simp [IntKind.min,IntKind.signed]) (by have:=v.isLt;simp only [show IntKind.u64.max=18446744073709551615 from rfl];omega)
theorem gG {x f:Int} (h0:IntKind.u64.min<=x) (h1:x<=IntKind.u64.max):aq .andNot .u64 x f=0↔aq .and .u64 x f=x:=by
 simp only [show IntKind.u64.min=0 from rfl,show IntKind.u64.max=18446744073709551615 from rfl] at h0 h1
 have e1:aq .andNot .u64 x f=((BitVec.ofInt 64 x &&& ~~~(BitVec.ofInt 64 f)).toNat:Int):=Fv _
 have e2:aq .and .u64 x f=((BitVec.ofInt 64 x &&& BitVec.ofInt 64 f).toNat:Int):=Fv _
 have e3:(x:Int)=((BitVec.ofInt 64 x).toNat:Int):=by rw [BitVec.toNat_ofInt];omega
 rw [e1,e2]
 constructor
 ·intro h
  have:BitVec.ofInt 64 x &&& ~~~(BitVec.ofInt 64 f)=0#64:=BitVec.eq_of_toNat_eq (by simpa using h)
  rw [(rV _ _).1 this];exact e3.symm
 ·intro h
  have:BitVec.ofInt 64 x &&& BitVec.ofInt 64 f=BitVec.ofInt 64 x:=BitVec.eq_of_toNat_eq (by omega)
  rw [(rV _ _).2 this];rfl
theorem ya (k:IntKind) (n:Int):k.min<=k.wrap n/\k.wrap n<=k.max:=by
 cases k<;>simp [IntKind.min,IntKind.max,IntKind.wrap,IntKind.signed,IntKind.bits]<;>omega
def qH (x f:Int):Bool:=decide (x≠0)&&decide (aq .and .u64 x f=x)
def AP (a b c d e f:Int) (day week:Bool):Int:=
 if (qH a 1152921504606846975&&qH b 1152921504606846975&&qH c 16777215&&qH d 4294967294&&qH e 8190&&qH f 127&&(!day||decide (d=4294967294))&&(!week||decide (f=127)))=true then 0 else 16
def Fy (z:Int):Int:=if z < -840\/840<z then 2 else 0
def sJ (a b c d t u:Int):Int:=if a<1\/1000<a\/b<1\/1024<b\/c<0\/4096<c\/d<1\/68719476736<d\/As.limP ⟨t,u⟩≠0 then 16 else 0
def ug (z:Int) (m:Mem):Prop:=True
def gR (z:Int) (m:Mem) (r:Int):Prop:=r=Fy z
def Jm:Sp:={ args:=[.i .i64],grp:=[none],res:=[.i .i64],rgrp:=[none],fn:=150,spec:=fun a0=>(ug a0,gR a0) }
def Ca:Prop:=∀m:Mem,∀x0:Int,mi<=x0->x0<=ma->ug x0 m->
 ((x0<(-840:Int)->
 ((K.i64 2)/\gR x0 m 2))/\
 ((-840:Int)<=x0->
 ((840<x0->
 ((K.i64 2)/\gR x0 m 2))/\
 (x0<=840->
 ((K.i64 0)/\gR x0 m 0)))))
set_option maxHeartbeats 4000000 in
theorem HY:Ca:=by
 intro m x0 _ _ _
 repeat' first | (refine And.intro ?_ ?_) | intro _
 all_goals first
  | (constructor<;>decide)
  | (simp only [gR,Fy];first | rw [if_pos (by omega)] | rw [if_neg (by omega)])
theorem HW:cI Tryz.prog Jm:=
 cX (aZ [] trivial rfl) (bC _ []) 1000 Jm _ rfl rfl (Eq.mp (show Ca=_ by kernel_rfl) HY)
def sI (a b c d s t u:Int) (m:Mem):Prop:=True
def dm (a b c d s t u:Int) (m:Mem) (r:Int):Prop:=r=sJ a b c d t u
def II:Sp:={ args:=[.i .i64,.i .i64,.i .i64,.i .i64,.i .u64,.i .i64,.i .i64],grp:=[some 7],res:=[.i .i64],rgrp:=[none],fn:=53,spec:=fun a0 a1 a2 a3 a4 a5 a6=>(sI a0 a1 a2 a3 a4 a5 a6,dm a0 a1 a2 a3 a4 a5 a6) }
def AX:Prop:=∀m:Mem,∀x0:Int,mi<=x0->x0<=ma->∀x1:Int,mi<=x1->x1<=ma->∀x2:Int,mi<=x2->x2<=ma->∀x3:Int,mi<=x3->x3<=ma->∀x4:Int,IntKind.u64.min<=x4->x4<=IntKind.u64.max->∀x5:Int,mi<=x5->x5<=ma->∀x6:Int,mi<=x6->x6<=ma->sI x0 x1 x2 x3 x4 x5 x6 m->
 ((1<=x0->
 ((x0<=1000->
 ((1<=x1->
 ((x1<=1024->
 ((0<=x2->
 ((x2<=4096->
 ((1<=x3->
 ((x3<=68719476736->
 ((ik x5 x6 m)/\∀m1:Mem,ac m m1->∀x7:Int,mi<=x7->x7<=ma->bU x5 x6 m1 x7->
 ((x7=0->
 ((K.i64 0)/\dm x0 x1 x2 x3 x4 x5 x6 m1 0))/\
 (x7≠0->
 ((K.i64 16)/\dm x0 x1 x2 x3 x4 x5 x6 m1 16)))))/\
 (68719476736<x3->
 ((K.i64 16)/\dm x0 x1 x2 x3 x4 x5 x6 m 16))))/\
 (x3<1->
 ((K.i64 16)/\dm x0 x1 x2 x3 x4 x5 x6 m 16))))/\
 (4096<x2->
 ((K.i64 16)/\dm x0 x1 x2 x3 x4 x5 x6 m 16))))/\
 (x2<0->
 ((K.i64 16)/\dm x0 x1 x2 x3 x4 x5 x6 m 16))))/\
 (1024<x1->
 ((K.i64 16)/\dm x0 x1 x2 x3 x4 x5 x6 m 16))))/\
 (x1<1->
 ((K.i64 16)/\dm x0 x1 x2 x3 x4 x5 x6 m 16))))/\
 (1000<x0->
 ((K.i64 16)/\dm x0 x1 x2 x3 x4 x5 x6 m 16))))/\
 (x0<1->
 ((K.i64 16)/\dm x0 x1 x2 x3 x4 x5 x6 m 16)))
set_option maxHeartbeats 4000000 in
theorem GA:AX:=by
 intro m x0 _ _ x1 _ _ x2 _ _ x3 _ _ x4 _ _ x5 _ _ x6 _ _ _
 repeat' first | (refine And.intro ?_ ?_) | intro _
 all_goals first
  | trivial
  | (constructor<;>decide)
  | (simp only [dm,sJ,bU] at *;subst_vars;first | rw [if_pos (by omega)] | rw [if_neg (by omega)])
theorem Gz:cI Tryz.prog II:=
 cX (aZ [Hj] ⟨BL,trivial⟩ rfl) (bC _ []) 1000 II _ rfl rfl (Eq.mp (show AX=_ by kernel_rfl) GA)
end
end Go.Proofs.YtjabmipkllkfbaaGreatDoor.Vc
