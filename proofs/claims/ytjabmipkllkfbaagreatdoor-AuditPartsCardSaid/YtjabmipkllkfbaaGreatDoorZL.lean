/-
  Contracts, by their trees.
-/
import Derived.Test.YtjabmipkllkfbaaGreatDoorZK
set_option linter.unusedVariables false
set_option linter.unusedSimpArgs false
namespace Go.Proofs.YtjabmipkllkfbaaGreatDoor.Vc
section
def Ei (i:Int):Int:=if i=0\/i=1 then 1152921504606846975 else if i=2 then 16777215 else if i=3 then 4294967294 else if i=4 then 8190 else 127
def dU (i:Int) (m:Mem):Prop:=dJ m ln/\0<=i/\i<=5
def bz (i:Int) (m:Mem) (z:Int):Prop:=z=Ei i
def wM:Sp:={ args:=[.i .i64],grp:=[none],res:=[.i .u64],rgrp:=[none],fn:=180,spec:=fun a0=>(dU a0,bz a0) }
def wN:Prop:=∀m:Mem,∀x0:Int,mi<=x0->x0<=ma->dU x0 m->
 (0<=x0/\(x0<=5/\((x0=0->
 ((K.u64 1152921504606846975)/\bz x0 m 1152921504606846975))/\
 (x0≠0->
 ((x0=1->
 ((K.u64 1152921504606846975)/\bz x0 m 1152921504606846975))/\
 (x0≠1->
 ((x0=2->
 ((K.u64 16777215)/\bz x0 m 16777215))/\
 (x0≠2->
 ((x0=3->
 ((K.u64 4294967294)/\bz x0 m 4294967294))/\
 (x0≠3->
 ((x0=4->
 ((K.u64 8190)/\bz x0 m 8190))/\
 (x0≠4->
 ((x0=5->
 ((K.u64 127)/\bz x0 m 127))/\
 (x0≠5->
 False /- err 120 -/))))))))))))))
set_option maxHeartbeats 4000000 in
theorem D4:wN:=by
 intro m x0 _ _ hp
 refine ⟨hp.2.1,hp.2.2,?_⟩
 repeat' first | (refine And.intro ?_ ?_) | intro _
 all_goals first
  | (constructor<;>decide)
  | (subst_vars;rfl)
  | (have h1:=hp.2.1;have h2:=hp.2.2;omega)
theorem D3:∀m,bG wM.args wM.spec fun r=>r.1 m->bg m ln:=fun m a h=>h.1.h
theorem D2:cI Tryz.prog wM:=
 Ax ln [.le (.lit 0) (.var 0),.le (.var 0) (.lit 5)] rfl (aZ [] trivial rfl) (bC _ []) 1000 wM _ rfl rfl D3 (Eq.mp (show wN=_ by kernel_rfl) D4)
def sn (a b c d e f:Int) (x y:Bool) (m:Mem):Prop:=dJ m ln
def ba (a b c d e f:Int) (x y:Bool) (m:Mem) (r:Int):Prop:=r=AP a b c d e f x y
def Iz:Sp:={ args:=[.i .u64,.i .u64,.i .u64,.i .u64,.i .u64,.i .u64,.b,.b],grp:=[some 8],res:=[.i .i64],rgrp:=[none],fn:=149,spec:=fun a0 a1 a2 a3 a4 a5 a6 a7=>(sn a0 a1 a2 a3 a4 a5 a6 a7,ba a0 a1 a2 a3 a4 a5 a6 a7) }
def AD:Prop:=∀m:Mem,∀x0:Int,IntKind.u64.min<=x0->x0<=IntKind.u64.max->∀x1:Int,IntKind.u64.min<=x1->x1<=IntKind.u64.max->∀x2:Int,IntKind.u64.min<=x2->x2<=IntKind.u64.max->∀x3:Int,IntKind.u64.min<=x3->x3<=IntKind.u64.max->∀x4:Int,IntKind.u64.min<=x4->x4<=IntKind.u64.max->∀x5:Int,IntKind.u64.min<=x5->x5<=IntKind.u64.max->∀b0:Bool,∀b1:Bool,sn x0 x1 x2 x3 x4 x5 b0 b1 m->
 ((x0=0->
 ((K.i64 16)/\ba x0 x1 x2 x3 x4 x5 b0 b1 m 16))/\
 (x0≠0->
 ((dU 0 m)/\∀m1:Mem,ac m m1->∀x6:Int,IntKind.u64.min<=x6->x6<=IntKind.u64.max->bz 0 m1 x6->
 (aJ BinOp.andNot x6/\∀x7:Int,x7=aq BinOp.andNot IntKind.u64 x0 x6->(K.u64 x7)/\((x7≠0->
 ((K.i64 16)/\ba x0 x1 x2 x3 x4 x5 b0 b1 m1 16))/\
 (x7=0->
 ((x1=0->
 ((K.i64 16)/\ba x0 x1 x2 x3 x4 x5 b0 b1 m1 16))/\
 (x1≠0->
 ((dU 1 m1)/\∀m2:Mem,ac m1 m2->∀x8:Int,IntKind.u64.min<=x8->x8<=IntKind.u64.max->bz 1 m2 x8->
 (aJ BinOp.andNot x8/\∀x9:Int,x9=aq BinOp.andNot IntKind.u64 x1 x8->(K.u64 x9)/\((x9≠0->
 ((K.i64 16)/\ba x0 x1 x2 x3 x4 x5 b0 b1 m2 16))/\
 (x9=0->
 ((x2=0->
 ((K.i64 16)/\ba x0 x1 x2 x3 x4 x5 b0 b1 m2 16))/\
 (x2≠0->
 ((dU 2 m2)/\∀m3:Mem,ac m2 m3->∀x10:Int,IntKind.u64.min<=x10->x10<=IntKind.u64.max->bz 2 m3 x10->
 (aJ BinOp.andNot x10/\∀x11:Int,x11=aq BinOp.andNot IntKind.u64 x2 x10->(K.u64 x11)/\((x11≠0->
 ((K.i64 16)/\ba x0 x1 x2 x3 x4 x5 b0 b1 m3 16))/\
 (x11=0->
 ((x3=0->
 ((K.i64 16)/\ba x0 x1 x2 x3 x4 x5 b0 b1 m3 16))/\
 (x3≠0->
 ((dU 3 m3)/\∀m4:Mem,ac m3 m4->∀x12:Int,IntKind.u64.min<=x12->x12<=IntKind.u64.max->bz 3 m4 x12->
 (aJ BinOp.andNot x12/\∀x13:Int,x13=aq BinOp.andNot IntKind.u64 x3 x12->(K.u64 x13)/\((x13≠0->
 ((K.i64 16)/\ba x0 x1 x2 x3 x4 x5 b0 b1 m4 16))/\
 (x13=0->
 ((x4=0->
 ((K.i64 16)/\ba x0 x1 x2 x3 x4 x5 b0 b1 m4 16))/\
 (x4≠0->
 ((dU 4 m4)/\∀m5:Mem,ac m4 m5->∀x14:Int,IntKind.u64.min<=x14->x14<=IntKind.u64.max->bz 4 m5 x14->
 (aJ BinOp.andNot x14/\∀x15:Int,x15=aq BinOp.andNot IntKind.u64 x4 x14->(K.u64 x15)/\((x15≠0->
 ((K.i64 16)/\ba x0 x1 x2 x3 x4 x5 b0 b1 m5 16))/\
 (x15=0->
 ((x5=0->
 ((K.i64 16)/\ba x0 x1 x2 x3 x4 x5 b0 b1 m5 16))/\
 (x5≠0->
 ((dU 5 m5)/\∀m6:Mem,ac m5 m6->∀x16:Int,IntKind.u64.min<=x16->x16<=IntKind.u64.max->bz 5 m6 x16->
 (aJ BinOp.andNot x16/\∀x17:Int,x17=aq BinOp.andNot IntKind.u64 x5 x16->(K.u64 x17)/\((x17≠0->
 ((K.i64 16)/\ba x0 x1 x2 x3 x4 x5 b0 b1 m6 16))/\
 (x17=0->
 ((b0=true->
 ((dU 3 m6)/\∀m7:Mem,ac m6 m7->∀x18:Int,IntKind.u64.min<=x18->x18<=IntKind.u64.max->bz 3 m7 x18->
 ((x3≠x18->
 ((K.i64 16)/\ba x0 x1 x2 x3 x4 x5 b0 b1 m7 16))/\
 (x3=x18->
 ((b1=true->
 ((dU 5 m7)/\∀m8:Mem,ac m7 m8->∀x19:Int,IntKind.u64.min<=x19->x19<=IntKind.u64.max->bz 5 m8 x19->
 ((x5≠x19->
 ((K.i64 16)/\ba x0 x1 x2 x3 x4 x5 b0 b1 m8 16))/\
 (x5=x19->
 ((K.i64 0)/\ba x0 x1 x2 x3 x4 x5 b0 b1 m8 0)))))/\
 (b1=false->
 ((K.i64 0)/\ba x0 x1 x2 x3 x4 x5 b0 b1 m7 0)))))))/\
 (b0=false->
 ((b1=true->
 ((dU 5 m6)/\∀m7:Mem,ac m6 m7->∀x18:Int,IntKind.u64.min<=x18->x18<=IntKind.u64.max->bz 5 m7 x18->
 ((x5≠x18->
 ((K.i64 16)/\ba x0 x1 x2 x3 x4 x5 b0 b1 m7 16))/\
 (x5=x18->
 ((K.i64 0)/\ba x0 x1 x2 x3 x4 x5 b0 b1 m7 0)))))/\
 (b1=false->
 ((K.i64 0)/\ba x0 x1 x2 x3 x4 x5 b0 b1 m6 0)))))))))))))))))))))))))))))))))))))))))
set_option maxHeartbeats 4000000 in
theorem Gi:AD:=by
 intro m x0 h00 h01 x1 h10 h11 x2 h20 h21 x3 h30 h31 x4 h40 h41 x5 h50 h51 b0 b1 hp
 have a0:=gG (f:=1152921504606846975) h00 h01
 have a1:=gG (f:=1152921504606846975) h10 h11
 have a2:=gG (f:=16777215) h20 h21
 have a3:=gG (f:=4294967294) h30 h31
 have a4:=gG (f:=8190) h40 h41
 have a5:=gG (f:=127) h50 h51
 simp only [forall_eq]
 repeat' first | (refine And.intro ?_ ?_) | intro _
 all_goals first
  | trivial
  | (constructor<;>decide)
  | assumption
  | exact (ya _ _).1
  | exact (ya _ _).2
  | (repeat (first | exact hp | refine dJ.sub (by assumption) ?_)
     done)
  | omega
  | (simp only [ba];simp_all [bz,Ei,AP,qH];done)
  | (simp only [bz,Ei] at *;simp only [Int.reduceEq,or_self,or_true,true_or,or_false,false_or,if_true,if_false,reduceIte] at *;subst_vars;simp_all [ba,AP,qH];done)
theorem Gh:cI Tryz.prog Iz:=
 cX (aZ [wM] ⟨D2,trivial⟩ rfl) (bC _ []) 1000 Iz _ rfl rfl (Eq.mp (show AD=_ by kernel_rfl) Gi)
end
end Go.Proofs.YtjabmipkllkfbaaGreatDoor.Vc
