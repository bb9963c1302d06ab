/-
  Contracts: events; Contracts, by their trees; Contracts, by their trees.
-/
import Derived.Test.YtjabmipkllkfbaaGreatDoorZF
import Derived.Test.YtjabmipkllkfbaaGreatDoorZT
import Derived.Test.YtjabmipkllkfbaaGreatDoorZG
set_option linter.unusedVariables false
set_option linter.unusedSimpArgs false
namespace Go.Proofs.YtjabmipkllkfbaaGreatDoor.Vc
section
abbrev mi:Int:=IntKind.i64.min
abbrev ma:Int:=IntKind.i64.max
abbrev vI (z:Int):Value:=Value.int IntKind.i64 z
def K.i64 (z:Int):Prop:=IntKind.i64.min<=z/\z<=IntKind.i64.max
def K.u64 (z:Int):Prop:=IntKind.u64.min<=z/\z<=IntKind.u64.max
def K.u8 (z:Int):Prop:=IntKind.u8.min<=z/\z<=IntKind.u8.max
def fy (n lo hi:Int) (m:Mem):Prop:=True
def bS (n lo hi:Int) (m:Mem) (r:Bool):Prop:=r=(decide (lo<=n)&&decide (n<=hi))
def CC:Sp:={ args:=[.i .i64,.i .i64,.i .i64],grp:=[none,none,none],res:=[.b],rgrp:=[none],fn:=115,spec:=fun a0 a1 a2=>(fy a0 a1 a2,bS a0 a1 a2) }
def Bc:Prop:=∀m:Mem,∀x0:Int,mi<=x0->x0<=ma->∀x1:Int,mi<=x1->x1<=ma->∀x2:Int,mi<=x2->x2<=ma->fy x0 x1 x2 m->
 ((x1<=x0->
 (bS x0 x1 x2 m (decide (x0<=x2))))/\
 (x0<x1->
 (bS x0 x1 x2 m false)))
theorem GL:Bc:=by
 intro m x0 _ _ x1 _ _ x2 _ _ _
 simp only [bS]
 exact ⟨fun h=>by simp [h],fun h=>by simp;omega⟩
theorem rn:cI Tryz.prog CC:=
 cX (aZ [] trivial rfl) (bC _ []) 1000 CC _ rfl rfl (Eq.mp (show Bc=_ by kernel_rfl) GL)
def ay (u:Bool) (n lo hi:Int) (m:Mem):Prop:=True
def al (u:Bool) (n lo hi:Int) (m:Mem) (r:Bool):Prop:=r=As.inU u n lo hi
def IC:Sp:={ args:=[.b,.i .i64,.i .i64,.i .i64],grp:=[none,none,none,none],res:=[.b],rgrp:=[none],fn:=102,spec:=fun a0 a1 a2 a3=>(ay a0 a1 a2 a3,al a0 a1 a2 a3) }
def AN:Prop:=∀m:Mem,∀b0:Bool,∀x0:Int,mi<=x0->x0<=ma->∀x1:Int,mi<=x1->x1<=ma->∀x2:Int,mi<=x2->x2<=ma->ay b0 x0 x1 x2 m->
 ((b0=false->
 (al b0 x0 x1 x2 m (decide (x0=0))))/\
 (b0=true->
 ((x1<=x0->
 (al b0 x0 x1 x2 m (decide (x0<=x2))))/\
 (x0<x1->
 (al b0 x0 x1 x2 m false)))))
theorem Gt:AN:=by
 intro m b x0 _ _ x1 _ _ x2 _ _ _
 simp only [al,As.inU]
 refine ⟨fun h=>by simp [h],fun h=>⟨fun h'=>by simp [h,h'],fun h'=>by simp [h];omega⟩⟩
theorem Gs:cI Tryz.prog IC:=
 cX (aZ [] trivial rfl) (bC _ []) 1000 IC _ rfl rfl (Eq.mp (show AN=_ by kernel_rfl) Gt)
def bH (t:Int) (m:Mem):Prop:=True
def aP (t:Int) (m:Mem) (r:Bool):Prop:=r=As.timeB t
def vK:Sp:={ args:=[.i .i64],grp:=[none],res:=[.b],rgrp:=[none],fn:=101,spec:=fun a0=>(bH a0,aP a0) }
def sz:Prop:=∀m:Mem,∀x0:Int,mi<=x0->x0<=ma->bH x0 m->
 ((0<=x0->
 (aP x0 m (decide (x0<=253402300799))))/\
 (x0<0->
 (aP x0 m false)))
theorem yx:sz:=by
 intro m x0 _ _ _
 simp only [aP,As.timeB]
 exact ⟨fun h=>by simp [h],fun h=>by simp;omega⟩
theorem yw:cI Tryz.prog vK:=
 cX (aZ [] trivial rfl) (bC _ []) 1000 vK _ rfl rfl (Eq.mp (show sz=_ by kernel_rfl) yx)
def lJ (k a j d t r w n:Int) (m:Mem):Prop:=True
def af (k a j d t r w n:Int) (m:Mem) (z:Int):Prop:=z=As.evP ⟨k,a,j,d,t,r,w,n⟩
def vF:Sp:={ args:=[.i .i64,.i .i64,.i .i64,.i .i64,.i .i64,.i .i64,.i .i64,.i .i64],grp:=[some 8],res:=[.i .i64],rgrp:=[none],fn:=72,spec:=fun a0 a1 a2 a3 a4 a5 a6 a7=>(lJ a0 a1 a2 a3 a4 a5 a6 a7,af a0 a1 a2 a3 a4 a5 a6 a7) }
def ss:Prop:=∀m:Mem,∀x0:Int,mi<=x0->x0<=ma->∀x1:Int,mi<=x1->x1<=ma->∀x2:Int,mi<=x2->x2<=ma->∀x3:Int,mi<=x3->x3<=ma->∀x4:Int,mi<=x4->x4<=ma->∀x5:Int,mi<=x5->x5<=ma->∀x6:Int,mi<=x6->x6<=ma->∀x7:Int,mi<=x7->x7<=ma->lJ x0 x1 x2 x3 x4 x5 x6 x7 m->
 ((x0<1->
 ((K.i64 2)/\af x0 x1 x2 x3 x4 x5 x6 x7 m 2))/\
 (1<=x0->
 ((9<=x0->
 ((K.i64 2)/\af x0 x1 x2 x3 x4 x5 x6 x7 m 2))/\
 (x0<9->
 ((x0=1->
 ((bH x1 m)/\∀m1:Mem,ac m m1->∀b0:Bool,aP x1 m1 b0->
 ((b0=false->
 ((K.i64 14)/\af x0 x1 x2 x3 x4 x5 x6 x7 m1 14))/\
 (b0=true->
 ((bH x3 m1)/\∀m2:Mem,ac m1 m2->∀b1:Bool,aP x3 m2 b1->
 ((b1=false->
 ((K.i64 14)/\af x0 x1 x2 x3 x4 x5 x6 x7 m2 14))/\
 (b1=true->
 ((ay true x2 0 63 m2)/\∀m3:Mem,ac m2 m3->∀b2:Bool,al true x2 0 63 m3 b2->
 ((b2=true->
 ((ay true x3 0 x1 m3)/\∀m4:Mem,ac m3 m4->∀b3:Bool,al true x3 0 x1 m4 b3->
 ((b3=true->
 ((ay true x4 1 21 m4)/\∀m5:Mem,ac m4 m5->∀b4:Bool,al true x4 1 21 m5 b4->
 ((b4=true->
 ((ay true x5 1 9223372036854775807 m5)/\∀m6:Mem,ac m5 m6->∀b5:Bool,al true x5 1 9223372036854775807 m6 b5->
 ((b5=true->
 ((x1+1)<=9223372036854775807/\((x1+1)<=9223372036854775807/\((ay false x7 (x1+1) 4611686018427387904 m6)/\∀m7:Mem,ac m6 m7->∀b6:Bool,al false x7 (x1+1) 4611686018427387904 m7 b6->
 ((b6=true->
 ((ay false x6 1 0 m7)/\∀m8:Mem,ac m7 m8->∀b7:Bool,al false x6 1 0 m8 b7->
 ((b7=true->
 ((K.i64 0)/\af x0 x1 x2 x3 x4 x5 x6 x7 m8 0))/\
 (b7=false->
 ((K.i64 2)/\af x0 x1 x2 x3 x4 x5 x6 x7 m8 2)))))/\
 (b6=false->
 ((K.i64 2)/\af x0 x1 x2 x3 x4 x5 x6 x7 m7 2)))))))/\
 (b5=false->
 ((K.i64 2)/\af x0 x1 x2 x3 x4 x5 x6 x7 m6 2)))))/\
 (b4=false->
 ((K.i64 2)/\af x0 x1 x2 x3 x4 x5 x6 x7 m5 2)))))/\
 (b3=false->
 ((K.i64 2)/\af x0 x1 x2 x3 x4 x5 x6 x7 m4 2)))))/\
 (b2=false->
 ((K.i64 2)/\af x0 x1 x2 x3 x4 x5 x6 x7 m3 2)))))))))))/\
 (x0≠1->
 ((x0=2->
 ((bH x1 m)/\∀m1:Mem,ac m m1->∀b0:Bool,aP x1 m1 b0->
 ((b0=false->
 ((K.i64 14)/\af x0 x1 x2 x3 x4 x5 x6 x7 m1 14))/\
 (b0=true->
 ((bH x3 m1)/\∀m2:Mem,ac m1 m2->∀b1:Bool,aP x3 m2 b1->
 ((b1=false->
 ((K.i64 14)/\af x0 x1 x2 x3 x4 x5 x6 x7 m2 14))/\
 (b1=true->
 ((ay true x2 0 63 m2)/\∀m3:Mem,ac m2 m3->∀b2:Bool,al true x2 0 63 m3 b2->
 ((b2=true->
 ((ay true x3 0 x1 m3)/\∀m4:Mem,ac m3 m4->∀b3:Bool,al true x3 0 x1 m4 b3->
 ((b3=true->
 ((ay true x4 1 21 m4)/\∀m5:Mem,ac m4 m5->∀b4:Bool,al true x4 1 21 m5 b4->
 ((b4=true->
 ((ay true x5 1 9223372036854775807 m5)/\∀m6:Mem,ac m5 m6->∀b5:Bool,al true x5 1 9223372036854775807 m6 b5->
 ((b5=true->
 ((x1+1)<=9223372036854775807/\((x1+1)<=9223372036854775807/\((ay false x7 (x1+1) 4611686018427387904 m6)/\∀m7:Mem,ac m6 m7->∀b6:Bool,al false x7 (x1+1) 4611686018427387904 m7 b6->
 ((b6=true->
 ((ay false x6 1 0 m7)/\∀m8:Mem,ac m7 m8->∀b7:Bool,al false x6 1 0 m8 b7->
 ((b7=true->
 ((K.i64 0)/\af x0 x1 x2 x3 x4 x5 x6 x7 m8 0))/\
 (b7=false->
 ((K.i64 2)/\af x0 x1 x2 x3 x4 x5 x6 x7 m8 2)))))/\
 (b6=false->
 ((K.i64 2)/\af x0 x1 x2 x3 x4 x5 x6 x7 m7 2)))))))/\
 (b5=false->
 ((K.i64 2)/\af x0 x1 x2 x3 x4 x5 x6 x7 m6 2)))))/\
 (b4=false->
 ((K.i64 2)/\af x0 x1 x2 x3 x4 x5 x6 x7 m5 2)))))/\
 (b3=false->
 ((K.i64 2)/\af x0 x1 x2 x3 x4 x5 x6 x7 m4 2)))))/\
 (b2=false->
 ((K.i64 2)/\af x0 x1 x2 x3 x4 x5 x6 x7 m3 2)))))))))))/\
 (x0≠2->
 ((x0=3->
 ((bH x1 m)/\∀m1:Mem,ac m m1->∀b0:Bool,aP x1 m1 b0->
 ((b0=false->
 ((K.i64 14)/\af x0 x1 x2 x3 x4 x5 x6 x7 m1 14))/\
 (b0=true->
 ((bH x3 m1)/\∀m2:Mem,ac m1 m2->∀b1:Bool,aP x3 m2 b1->
 ((b1=false->
 ((K.i64 14)/\af x0 x1 x2 x3 x4 x5 x6 x7 m2 14))/\
 (b1=true->
 ((ay true x2 0 63 m2)/\∀m3:Mem,ac m2 m3->∀b2:Bool,al true x2 0 63 m3 b2->
 ((b2=true->
 ((ay true x3 0 x1 m3)/\∀m4:Mem,ac m3 m4->∀b3:Bool,al true x3 0 x1 m4 b3->
 ((b3=true->
 ((ay true x4 1 21 m4)/\∀m5:Mem,ac m4 m5->∀b4:Bool,al true x4 1 21 m5 b4->
 ((b4=true->
 ((ay true x5 1 9223372036854775807 m5)/\∀m6:Mem,ac m5 m6->∀b5:Bool,al true x5 1 9223372036854775807 m6 b5->
 ((b5=true->
 ((x1+1)<=9223372036854775807/\((x1+1)<=9223372036854775807/\((ay false x7 (x1+1) 4611686018427387904 m6)/\∀m7:Mem,ac m6 m7->∀b6:Bool,al false x7 (x1+1) 4611686018427387904 m7 b6->
 ((b6=true->
 ((ay false x6 1 0 m7)/\∀m8:Mem,ac m7 m8->∀b7:Bool,al false x6 1 0 m8 b7->
 ((b7=true->
 ((K.i64 0)/\af x0 x1 x2 x3 x4 x5 x6 x7 m8 0))/\
 (b7=false->
 ((K.i64 2)/\af x0 x1 x2 x3 x4 x5 x6 x7 m8 2)))))/\
 (b6=false->
 ((K.i64 2)/\af x0 x1 x2 x3 x4 x5 x6 x7 m7 2)))))))/\
 (b5=false->
 ((K.i64 2)/\af x0 x1 x2 x3 x4 x5 x6 x7 m6 2)))))/\
 (b4=false->
 ((K.i64 2)/\af x0 x1 x2 x3 x4 x5 x6 x7 m5 2)))))/\
 (b3=false->
 ((K.i64 2)/\af x0 x1 x2 x3 x4 x5 x6 x7 m4 2)))))/\
 (b2=false->
 ((K.i64 2)/\af x0 x1 x2 x3 x4 x5 x6 x7 m3 2)))))))))))/\
 (x0≠3->
 ((x0=4->
 ((bH x1 m)/\∀m1:Mem,ac m m1->∀b0:Bool,aP x1 m1 b0->
 ((b0=false->
 ((K.i64 14)/\af x0 x1 x2 x3 x4 x5 x6 x7 m1 14))/\
 (b0=true->
 ((bH x3 m1)/\∀m2:Mem,ac m1 m2->∀b1:Bool,aP x3 m2 b1->
 ((b1=false->
 ((K.i64 14)/\af x0 x1 x2 x3 x4 x5 x6 x7 m2 14))/\
 (b1=true->
 ((ay true x2 0 63 m2)/\∀m3:Mem,ac m2 m3->∀b2:Bool,al true x2 0 63 m3 b2->
 ((b2=true->
 ((ay true x3 0 x1 m3)/\∀m4:Mem,ac m3 m4->∀b3:Bool,al true x3 0 x1 m4 b3->
 ((b3=true->
 ((ay true x4 2 21 m4)/\∀m5:Mem,ac m4 m5->∀b4:Bool,al true x4 2 21 m5 b4->
 ((b4=true->
 ((ay false x5 1 9223372036854775807 m5)/\∀m6:Mem,ac m5 m6->∀b5:Bool,al false x5 1 9223372036854775807 m6 b5->
 ((b5=true->
 ((x1+1)<=9223372036854775807/\((x1+1)<=9223372036854775807/\((ay true x7 (x1+1) 4611686018427387904 m6)/\∀m7:Mem,ac m6 m7->∀b6:Bool,al true x7 (x1+1) 4611686018427387904 m7 b6->
 ((b6=true->
 ((ay false x6 1 0 m7)/\∀m8:Mem,ac m7 m8->∀b7:Bool,al false x6 1 0 m8 b7->
 ((b7=true->
 ((K.i64 0)/\af x0 x1 x2 x3 x4 x5 x6 x7 m8 0))/\
 (b7=false->
 ((K.i64 2)/\af x0 x1 x2 x3 x4 x5 x6 x7 m8 2)))))/\
 (b6=false->
 ((K.i64 2)/\af x0 x1 x2 x3 x4 x5 x6 x7 m7 2)))))))/\
 (b5=false->
 ((K.i64 2)/\af x0 x1 x2 x3 x4 x5 x6 x7 m6 2)))))/\
 (b4=false->
 ((K.i64 2)/\af x0 x1 x2 x3 x4 x5 x6 x7 m5 2)))))/\
 (b3=false->
 ((K.i64 2)/\af x0 x1 x2 x3 x4 x5 x6 x7 m4 2)))))/\
 (b2=false->
 ((K.i64 2)/\af x0 x1 x2 x3 x4 x5 x6 x7 m3 2)))))))))))/\
 (x0≠4->
 ((x0=5->
 ((bH x1 m)/\∀m1:Mem,ac m m1->∀b0:Bool,aP x1 m1 b0->
 ((b0=false->
 ((K.i64 14)/\af x0 x1 x2 x3 x4 x5 x6 x7 m1 14))/\
 (b0=true->
 ((bH x3 m1)/\∀m2:Mem,ac m1 m2->∀b1:Bool,aP x3 m2 b1->
 ((b1=false->
 ((K.i64 14)/\af x0 x1 x2 x3 x4 x5 x6 x7 m2 14))/\
 (b1=true->
 ((ay true x2 0 63 m2)/\∀m3:Mem,ac m2 m3->∀b2:Bool,al true x2 0 63 m3 b2->
 ((b2=true->
 ((ay true x3 0 x1 m3)/\∀m4:Mem,ac m3 m4->∀b3:Bool,al true x3 0 x1 m4 b3->
 ((b3=true->
 ((ay true x4 1 21 m4)/\∀m5:Mem,ac m4 m5->∀b4:Bool,al true x4 1 21 m5 b4->
 ((b4=true->
 ((ay false x5 1 9223372036854775807 m5)/\∀m6:Mem,ac m5 m6->∀b5:Bool,al false x5 1 9223372036854775807 m6 b5->
 ((b5=true->
 ((x1+1)<=9223372036854775807/\((x1+1)<=9223372036854775807/\((ay false x7 (x1+1) 4611686018427387904 m6)/\∀m7:Mem,ac m6 m7->∀b6:Bool,al false x7 (x1+1) 4611686018427387904 m7 b6->
 ((b6=true->
 ((ay true x6 1 6 m7)/\∀m8:Mem,ac m7 m8->∀b7:Bool,al true x6 1 6 m8 b7->
 ((b7=true->
 ((K.i64 0)/\af x0 x1 x2 x3 x4 x5 x6 x7 m8 0))/\
 (b7=false->
 ((K.i64 2)/\af x0 x1 x2 x3 x4 x5 x6 x7 m8 2)))))/\
 (b6=false->
 ((K.i64 2)/\af x0 x1 x2 x3 x4 x5 x6 x7 m7 2)))))))/\
 (b5=false->
 ((K.i64 2)/\af x0 x1 x2 x3 x4 x5 x6 x7 m6 2)))))/\
 (b4=false->
 ((K.i64 2)/\af x0 x1 x2 x3 x4 x5 x6 x7 m5 2)))))/\
 (b3=false->
 ((K.i64 2)/\af x0 x1 x2 x3 x4 x5 x6 x7 m4 2)))))/\
 (b2=false->
 ((K.i64 2)/\af x0 x1 x2 x3 x4 x5 x6 x7 m3 2)))))))))))/\
 (x0≠5->
 ((x0=6->
 ((bH x1 m)/\∀m1:Mem,ac m m1->∀b0:Bool,aP x1 m1 b0->
 ((b0=false->
 ((K.i64 14)/\af x0 x1 x2 x3 x4 x5 x6 x7 m1 14))/\
 (b0=true->
 ((ay false x2 0 63 m1)/\∀m2:Mem,ac m1 m2->∀b1:Bool,al false x2 0 63 m2 b1->
 ((b1=true->
 ((ay false x3 0 x1 m2)/\∀m3:Mem,ac m2 m3->∀b2:Bool,al false x3 0 x1 m3 b2->
 ((b2=true->
 ((ay false x4 1 21 m3)/\∀m4:Mem,ac m3 m4->∀b3:Bool,al false x4 1 21 m4 b3->
 ((b3=true->
 ((ay false x5 1 9223372036854775807 m4)/\∀m5:Mem,ac m4 m5->∀b4:Bool,al false x5 1 9223372036854775807 m5 b4->
 ((b4=true->
 ((x1+1)<=9223372036854775807/\((x1+1)<=9223372036854775807/\((ay false x7 (x1+1) 4611686018427387904 m5)/\∀m6:Mem,ac m5 m6->∀b5:Bool,al false x7 (x1+1) 4611686018427387904 m6 b5->
 ((b5=true->
 ((ay true x6 1 16 m6)/\∀m7:Mem,ac m6 m7->∀b6:Bool,al true x6 1 16 m7 b6->
 ((b6=true->
 ((K.i64 0)/\af x0 x1 x2 x3 x4 x5 x6 x7 m7 0))/\
 (b6=false->
 ((K.i64 2)/\af x0 x1 x2 x3 x4 x5 x6 x7 m7 2)))))/\
 (b5=false->
 ((K.i64 2)/\af x0 x1 x2 x3 x4 x5 x6 x7 m6 2)))))))/\
 (b4=false->
 ((K.i64 2)/\af x0 x1 x2 x3 x4 x5 x6 x7 m5 2)))))/\
 (b3=false->
 ((K.i64 2)/\af x0 x1 x2 x3 x4 x5 x6 x7 m4 2)))))/\
 (b2=false->
 ((K.i64 2)/\af x0 x1 x2 x3 x4 x5 x6 x7 m3 2)))))/\
 (b1=false->
 ((K.i64 2)/\af x0 x1 x2 x3 x4 x5 x6 x7 m2 2))))))))/\
 (x0≠6->
 ((x0=7->
 ((bH x1 m)/\∀m1:Mem,ac m m1->∀b0:Bool,aP x1 m1 b0->
 ((b0=false->
 ((K.i64 14)/\af x0 x1 x2 x3 x4 x5 x6 x7 m1 14))/\
 (b0=true->
 ((ay true x2 0 63 m1)/\∀m2:Mem,ac m1 m2->∀b1:Bool,al true x2 0 63 m2 b1->
 ((b1=true->
 ((ay false x3 0 x1 m2)/\∀m3:Mem,ac m2 m3->∀b2:Bool,al false x3 0 x1 m3 b2->
 ((b2=true->
 ((ay false x4 1 21 m3)/\∀m4:Mem,ac m3 m4->∀b3:Bool,al false x4 1 21 m4 b3->
 ((b3=true->
 ((ay false x5 1 9223372036854775807 m4)/\∀m5:Mem,ac m4 m5->∀b4:Bool,al false x5 1 9223372036854775807 m5 b4->
 ((b4=true->
 ((x1+1)<=9223372036854775807/\((x1+1)<=9223372036854775807/\((ay true x7 (x1+1) 4611686018427387904 m5)/\∀m6:Mem,ac m5 m6->∀b5:Bool,al true x7 (x1+1) 4611686018427387904 m6 b5->
 ((b5=true->
 ((ay false x6 1 0 m6)/\∀m7:Mem,ac m6 m7->∀b6:Bool,al false x6 1 0 m7 b6->
 ((b6=true->
 ((K.i64 0)/\af x0 x1 x2 x3 x4 x5 x6 x7 m7 0))/\
 (b6=false->
 ((K.i64 2)/\af x0 x1 x2 x3 x4 x5 x6 x7 m7 2)))))/\
 (b5=false->
 ((K.i64 2)/\af x0 x1 x2 x3 x4 x5 x6 x7 m6 2)))))))/\
 (b4=false->
 ((K.i64 2)/\af x0 x1 x2 x3 x4 x5 x6 x7 m5 2)))))/\
 (b3=false->
 ((K.i64 2)/\af x0 x1 x2 x3 x4 x5 x6 x7 m4 2)))))/\
 (b2=false->
 ((K.i64 2)/\af x0 x1 x2 x3 x4 x5 x6 x7 m3 2)))))/\
 (b1=false->
 ((K.i64 2)/\af x0 x1 x2 x3 x4 x5 x6 x7 m2 2))))))))/\
 (x0≠7->
 ((x0=8->
 ((bH x1 m)/\∀m1:Mem,ac m m1->∀b0:Bool,aP x1 m1 b0->
 ((b0=false->
 ((K.i64 14)/\af x0 x1 x2 x3 x4 x5 x6 x7 m1 14))/\
 (b0=true->
 ((ay true x2 0 63 m1)/\∀m2:Mem,ac m1 m2->∀b1:Bool,al true x2 0 63 m2 b1->
 ((b1=true->
 ((ay false x3 0 x1 m2)/\∀m3:Mem,ac m2 m3->∀b2:Bool,al false x3 0 x1 m3 b2->
 ((b2=true->
 ((ay false x4 1 21 m3)/\∀m4:Mem,ac m3 m4->∀b3:Bool,al false x4 1 21 m4 b3->
 ((b3=true->
 ((ay false x5 1 9223372036854775807 m4)/\∀m5:Mem,ac m4 m5->∀b4:Bool,al false x5 1 9223372036854775807 m5 b4->
 ((b4=true->
 ((x1+1)<=9223372036854775807/\((x1+1)<=9223372036854775807/\((ay false x7 (x1+1) 4611686018427387904 m5)/\∀m6:Mem,ac m5 m6->∀b5:Bool,al false x7 (x1+1) 4611686018427387904 m6 b5->
 ((b5=true->
 ((ay false x6 1 0 m6)/\∀m7:Mem,ac m6 m7->∀b6:Bool,al false x6 1 0 m7 b6->
 ((b6=true->
 ((K.i64 0)/\af x0 x1 x2 x3 x4 x5 x6 x7 m7 0))/\
 (b6=false->
 ((K.i64 2)/\af x0 x1 x2 x3 x4 x5 x6 x7 m7 2)))))/\
 (b5=false->
 ((K.i64 2)/\af x0 x1 x2 x3 x4 x5 x6 x7 m6 2)))))))/\
 (b4=false->
 ((K.i64 2)/\af x0 x1 x2 x3 x4 x5 x6 x7 m5 2)))))/\
 (b3=false->
 ((K.i64 2)/\af x0 x1 x2 x3 x4 x5 x6 x7 m4 2)))))/\
 (b2=false->
 ((K.i64 2)/\af x0 x1 x2 x3 x4 x5 x6 x7 m3 2)))))/\
 (b1=false->
 ((K.i64 2)/\af x0 x1 x2 x3 x4 x5 x6 x7 m2 2))))))))/\
 (x0≠8->
 False /- err 120 -/))))))))))))))))))))
theorem yu:ss:=by
 intro m x0 _ _ x1 _ _ x2 _ _ x3 _ _ x4 _ _ x5 _ _ x6 _ _ x7 _ _ _
 repeat' first | (refine And.intro ?_ ?_) | intro _
 all_goals first
  | trivial
  | (constructor<;>decide)
  | (simp only [show IntKind.i64.min = -9223372036854775808 from rfl,show IntKind.i64.max=9223372036854775807 from rfl] at *;omega)
  | (simp only [al,aP] at *;subst_vars;simp_all [af,As.evP,As.usesK];done)
  | (simp only [al,aP,As.timeB] at *;subst_vars;simp_all;omega)
  | (simp only [af,As.evP];rw [if_pos (by omega)])
theorem yq:cI Tryz.prog vF:=
 cX (aZ [IC,vK] ⟨Gs,⟨yw,trivial⟩⟩ rfl) (bC _ []) 1000 vF _ rfl rfl (Eq.mp (show ss=_ by kernel_rfl) yu)
end
section
theorem dy {z:Int} (h : -9223372036854775808<=z) (k:z<=9223372036854775807):K.i64 z:=⟨h,k⟩
end
section
open As
def jl (x u:Ev):Bool:=u.run==x.run&&(u.job==x.job&&(u.due==x.due&&u.attempt==x.attempt))
def lG (p:List Ev) (x:Ev):Bool:=match p.getLast? with | some y=>decide (x.at_<y.at_) | none=>false
def ng (p:List Ev) (x:Ev):Int:=if x.kind=1 then (if x.run≠fT p+1 then 8 else 0) else if iY x=true then (if (und p).any (jl x)=true then 0 else 8) else 0
def cS (jobs:Int) (p:List Ev) (x:Ev):Int:=if evP x≠0 then evP x else if x.kind≠6/\jobs<=x.job then 3 else if lG p x=true then 8 else ng p x
def ix (jobs:Int):List Ev->List Ev->Int×Int
 | _,[]=>(0,0)
 | p,x::r=>if cS jobs p x≠0 then ((p.length:Int),cS jobs p x) else ix jobs (p++[x]) r
def iG (jobs:Int) (l:List Ev):Int×Int:=if jobs<0\/64<jobs then (0,2) else ix jobs [] l
def eP (u:Ev):List Value:=[.int .i64 u.kind,.int .i64 u.at_,.int .i64 u.job,.int .i64 u.due,.int .i64 u.attempt,.int .i64 u.run,.int .i64 u.why,.int .i64 u.when_]
def kL (u:Ev):Value := .tuple #[.int .i64 u.run,.agg (List.toArray (eP u))]
theorem Bt (r:Int):∀(U:List Ev) (i:Nat),(∀u∈U,u.run≠r)->bb (.int .i64 r) (U.map kL) i=some none:=by
 intro U
 induction U with
 | nil=>intro i _;rfl
 | cons u U ih =>
  intro i h
  have h1:dh (.int .i64 r) (.int .i64 u.run)=some false:=by
   have:=h u (List.mem_cons_self ..)
   simp only [dh,if_true]
   congr 1
   simp;omega
  simp only [List.map_cons,kL,bb,h1]
  exact ih _ fun v hv=>h v (List.mem_cons_of_mem _ hv)
theorem G8 (r:Int):∀(U:List Ev) (i:Nat) (u:Ev),U.Pairwise (fun a b=>a.run<b.run)->u∈U->u.run=r->
  ∃j,bb (.int .i64 r) (U.map kL) i=some (some (i+j,.agg (List.toArray (eP u))))/\(U.map kL).eraseIdx j=(U.filter fun z=>decide (z.run≠r)).map kL:=by
 intro U
 induction U with
 | nil=>intro i u _ h;cases h
 | cons v U ih =>
  intro i u hp hu hr
  rw [List.pairwise_cons] at hp
  by_cases hv:v.run=r
  ·have:u=v:=by
    cases hu with
    | head=>rfl
    | tail _ hu=>have:=hp.1 u hu;omega
   subst this
   have h1:dh (.int .i64 r) (.int .i64 u.run)=some true:=by rw [hv];simp [dh]
   refine ⟨0,by simp only [List.map_cons,kL,bb,h1,Nat.add_zero],?_⟩
   rw [List.filter_cons_of_neg (by simp [hv]),List.filter_eq_self.2 (fun z hz=>by have:=hp.1 z hz;exact decide_eq_true (by omega))]
   rfl
  ·have hu':u∈U:=by
    cases hu with
    | head=>exact (hv hr).elim
    | tail _ hu=>exact hu
   have h1:dh (.int .i64 r) (.int .i64 v.run)=some false:=by
    simp only [dh,if_true]
    congr 1
    simp;omega
   obtain ⟨j,e1,e2⟩:=ih (i+1) u hp.2 hu' hr
   refine ⟨j+1,?_,?_⟩
   ·simp only [List.map_cons,kL,bb,h1]
    rw [show i+(j+1)=i+1+j by omega];exact e1
   ·rw [List.filter_cons_of_pos (by simp [hv])]
    simp only [List.map_cons,List.eraseIdx_cons_succ,e2]
theorem Iq (x:Ev):∀(U:List Ev) (u:Ev),U.Pairwise (fun a b=>a.run<b.run)->u∈U->u.run=x.run->U.any (jl x)=(u.job==x.job&&(u.due==x.due&&u.attempt==x.attempt)):=by
 intro U
 induction U with
 | nil=>intro u _ h;cases h
 | cons v U ih =>
  intro u hp hu hr
  rw [List.pairwise_cons] at hp
  by_cases hv:v.run=x.run
  ·have:u=v:=by
    cases hu with
    | head=>rfl
    | tail _ hu=>have:=hp.1 u hu;omega
   subst this
   have hno:U.any (jl x)=false:=by
    rw [List.any_eq_false]
    intro z hz
    have:=hp.1 z hz
    have hb:(z.run==x.run)=false:=by simp;omega
    simp [jl,hb]
   rw [List.any_cons,hno,Bool.or_false]
   simp [jl,hv]
  ·have hu':u∈U:=by
    cases hu with
    | head=>exact (hv hr).elim
    | tail _ hu=>exact hu
   have hb:(v.run==x.run)=false:=by simp [hv]
   rw [List.any_cons,ih u hp.2 hu' hr]
   simp [jl,hb]
theorem HO:∀(l:List Ev),∀u∈und l,u∈l:=by
 have key:∀(r l:List Ev) (acc:List Ev),(∀u∈acc,u∈l)->∀u∈r.foldl wv acc,u∈l\/u∈r:=by
  intro r
  induction r with
  | nil=>intro l acc h u hu;exact .inl (h u hu)
  | cons x r ih =>
   intro l acc h u hu
   have:=ih (l++[x]) (wv acc x) (fun v hv=>by
    unfold wv at hv
    split at hv
    ·rcases List.mem_append.1 hv with hv | hv
     ·exact List.mem_append_left _ (h v hv)
     ·exact List.mem_append_right _ hv
    ·split at hv
     ·exact List.mem_append_left _ (h v (List.mem_filter.1 hv).1)
     ·exact List.mem_append_left _ (h v hv)) u hu
   rcases this with this | this
   ·rcases List.mem_append.1 this with h1 | h1
    ·exact .inl h1
    ·exact .inr (by rw [List.mem_singleton] at h1;rw [h1];exact List.mem_cons_self ..)
   ·exact .inr (List.mem_cons_of_mem _ this)
 intro l u hu
 rcases key l [] [] (fun u h=>by cases h) u hu with h | h
 ·cases h
 ·exact h
theorem Ez {l:List Ev} (h:As.Trace l):fT l<=(l.length:Int):=by
 induction h with
 | nil=>exact Int.le_refl _
 | @snoc l x _ hp ih=>
  rw [iL,List.length_append]
  by_cases hk:x.kind=1
  ·rw [if_pos hk,hp.1 hk];simp;omega
  ·rw [if_neg hk];simp;omega
theorem rU {l:List Ev} {i:Nat} {x:Ev}:lG (l.take i) x=(match l[i-1]? with | some y=>decide (0<i)&&decide (x.at_<y.at_) | none=>false)\/l.length<i:=by
 by_cases hi:i<=l.length
 ·left
  unfold lG
  rw [List.getLast?_eq_getElem?,List.length_take,Nat.min_eq_left hi]
  rcases Nat.eq_zero_or_pos i with rfl | h0
  ·simp
   split<;>rfl
  ·rw [List.getElem?_take_of_lt (by omega)]
   split<;>simp_all
 ·right;omega
def gv (p:Option Addr) (n c:Nat) (j:Int) (m:Mem):Prop:=∃l,dx m p n l
def aI (p:Option Addr) (n c:Nat) (j:Int) (m:Mem) (i e:Int):Prop:=∀l,dx m p n l->(i,e)=iG j l
def wu:Sp:={ args:=[.sl,.i .i64],grp:=[none,none],res:=[.i .i64,.i .i64],rgrp:=[none,none],fn:=35,spec:=fun a0 a1 a2 a3=>(gv a0 a1 a2 a3,aI a0 a1 a2 a3) }
def B5:Prop:=∀m:Mem,∀(p0:Option Addr) (n0 c0:Nat),n0<=9223372036854775807->c0<=9223372036854775807->∀x2:Int,mi<=x2->x2<=ma->gv p0 n0 c0 x2 m->
 ((x2<0->
 ((K.i64 0)/\(K.i64 2)/\aI p0 n0 c0 x2 m 0 2))/\
 (0<=x2->
 ((64<x2->
 ((K.i64 0)/\(K.i64 2)/\aI p0 n0 c0 x2 m 0 2))/\
 (x2<=64->
 (∀k1:Nat,(∃F1:Int->Int->Int->Int->List Value->Prop×Nat,((K.i64 0)/\(K.i64 0)/\(K.i64 0)/\(K.i64 0)/\(F1 0 0 0 0 []).1)/\
 ∀x3:Int,mi<=x3->x3<=ma->∀x4:Int,mi<=x4->x4<=ma->∀x5:Int,mi<=x5->x5<=ma->∀x6:Int,mi<=x6->x6<=ma->∀r1:List Value,(F1 x3 x4 x5 x6 r1).1->
 ((x6<(n0:Int)->
 (0<=x6/\(p0≠none/\(cw m p0 (0+(x6*8)) 8/\(∃x7:Int,ae m p0 (0+(x6*8))=some (vI x7)/\(K.i64 x7)/\(∃x8:Int,ae m p0 ((0+(x6*8))+1)=some (vI x8)/\(K.i64 x8)/\(∃x9:Int,ae m p0 ((0+(x6*8))+2)=some (vI x9)/\(K.i64 x9)/\(∃x10:Int,ae m p0 ((0+(x6*8))+3)=some (vI x10)/\(K.i64 x10)/\(∃x11:Int,ae m p0 ((0+(x6*8))+4)=some (vI x11)/\(K.i64 x11)/\(∃x12:Int,ae m p0 ((0+(x6*8))+5)=some (vI x12)/\(K.i64 x12)/\(∃x13:Int,ae m p0 ((0+(x6*8))+6)=some (vI x13)/\(K.i64 x13)/\(∃x14:Int,ae m p0 ((0+(x6*8))+7)=some (vI x14)/\(K.i64 x14)/\(lJ x7 x8 x9 x10 x11 x12 x13 x14 m/\∀m2:Mem,ac m m2->∀x15:Int,mi<=x15->x15<=ma->af x7 x8 x9 x10 x11 x12 x13 x14 m2 x15->
 ((x15≠0->
 ((K.i64 x6)/\(K.i64 x15)/\aI p0 n0 c0 x2 m2 x6 x15))/\
 (x15=0->
 ((x7≠6->
 ((x2<=x9->
 ((K.i64 x6)/\(K.i64 3)/\aI p0 n0 c0 x2 m2 x6 3))/\
 (x9<x2->
 ((0<x6->
 ((x6-1)<(n0:Int)/\(p0≠none/\(cw m2 p0 ((0+((x6-1)*8))+1) 1/\(∃x16:Int,ae m2 p0 ((0+((x6-1)*8))+1)=some (vI x16)/\(K.i64 x16)/\((x8<x16->
 ((K.i64 x6)/\(K.i64 8)/\aI p0 n0 c0 x2 m2 x6 8))/\
 (x16<=x8->
 ((x7=1->
 ((x5+1)<=9223372036854775807/\((x12≠(x5+1)->
 ((K.i64 x6)/\(K.i64 8)/\aI p0 n0 c0 x2 m2 x6 8))/\
 (x12=(x5+1)->
 (∃f:Option (Nat×Value),bb (vI x12) r1 0=some f/\∀r2:List Value,r2=kQ f r1 (vI x12) (Value.agg (List.toArray [(vI x7),(vI x8),(vI x9),(vI x10),(vI x11),(vI x12),(vI x13),(vI x14)]))->((x6+1)<=9223372036854775807/\((K.i64 x3)/\(K.i64 x4)/\(K.i64 x12)/\(mi<=(x6+1)/\(x6+1)<=ma)/\((F1 x3 x4 x12 (x6+1) r2).1/\(F1 x3 x4 x12 (x6+1) r2).2<(F1 x3 x4 x5 x6 r1).2))))))))/\
 (x7≠1->
 ((x7=2->
 (∃f:Option (Nat×Value),bb (vI x12) r1 0=some f/\∀b0:Bool,b0=rq f->∃r2:List Value,oO true f [(vI 0),(vI 0),(vI 0),(vI 0),(vI 0),(vI 0),(vI 0),(vI 0)] r2/\((b0=false->
 ((K.i64 x6)/\(K.i64 8)/\aI p0 n0 c0 x2 m2 x6 8))/\
 (b0=true->
 (∃x17:Int,br r2 2=some (vI x17)/\(K.i64 x17)/\((x17≠x9->
 ((K.i64 x6)/\(K.i64 8)/\aI p0 n0 c0 x2 m2 x6 8))/\
 (x17=x9->
 (∃x18:Int,br r2 3=some (vI x18)/\(K.i64 x18)/\((x18≠x10->
 ((K.i64 x6)/\(K.i64 8)/\aI p0 n0 c0 x2 m2 x6 8))/\
 (x18=x10->
 (∃x19:Int,br r2 4=some (vI x19)/\(K.i64 x19)/\((x19≠x11->
 ((K.i64 x6)/\(K.i64 8)/\aI p0 n0 c0 x2 m2 x6 8))/\
 (x19=x11->
 (∃f:Option (Nat×Value),bb (vI x12) r1 0=some f/\∀r3:List Value,r3=yG f r1->((x6+1)<=9223372036854775807/\((K.i64 x3)/\(K.i64 x4)/\(K.i64 x5)/\(mi<=(x6+1)/\(x6+1)<=ma)/\((F1 x3 x4 x5 (x6+1) r3).1/\(F1 x3 x4 x5 (x6+1) r3).2<(F1 x3 x4 x5 x6 r1).2)))))))))))))))))/\
 (x7≠2->
 ((x7=3->
 (∃f:Option (Nat×Value),bb (vI x12) r1 0=some f/\∀b0:Bool,b0=rq f->∃r2:List Value,oO true f [(vI 0),(vI 0),(vI 0),(vI 0),(vI 0),(vI 0),(vI 0),(vI 0)] r2/\((b0=false->
 ((K.i64 x6)/\(K.i64 8)/\aI p0 n0 c0 x2 m2 x6 8))/\
 (b0=true->
 (∃x17:Int,br r2 2=some (vI x17)/\(K.i64 x17)/\((x17≠x9->
 ((K.i64 x6)/\(K.i64 8)/\aI p0 n0 c0 x2 m2 x6 8))/\
 (x17=x9->
 (∃x18:Int,br r2 3=some (vI x18)/\(K.i64 x18)/\((x18≠x10->
 ((K.i64 x6)/\(K.i64 8)/\aI p0 n0 c0 x2 m2 x6 8))/\
 (x18=x10->
 (∃x19:Int,br r2 4=some (vI x19)/\(K.i64 x19)/\((x19≠x11->
 ((K.i64 x6)/\(K.i64 8)/\aI p0 n0 c0 x2 m2 x6 8))/\
 (x19=x11->
 (∃f:Option (Nat×Value),bb (vI x12) r1 0=some f/\∀r3:List Value,r3=yG f r1->((x6+1)<=9223372036854775807/\((K.i64 x3)/\(K.i64 x4)/\(K.i64 x5)/\(mi<=(x6+1)/\(x6+1)<=ma)/\((F1 x3 x4 x5 (x6+1) r3).1/\(F1 x3 x4 x5 (x6+1) r3).2<(F1 x3 x4 x5 x6 r1).2)))))))))))))))))/\
 (x7≠3->
 ((x6+1)<=9223372036854775807/\((K.i64 x3)/\(K.i64 x4)/\(K.i64 x5)/\(mi<=(x6+1)/\(x6+1)<=ma)/\((F1 x3 x4 x5 (x6+1) r1).1/\(F1 x3 x4 x5 (x6+1) r1).2<(F1 x3 x4 x5 x6 r1).2))))))))))))))))/\
 (x6<=0->
 ((x7=1->
 ((x5+1)<=9223372036854775807/\((x12≠(x5+1)->
 ((K.i64 x6)/\(K.i64 8)/\aI p0 n0 c0 x2 m2 x6 8))/\
 (x12=(x5+1)->
 (∃f:Option (Nat×Value),bb (vI x12) r1 0=some f/\∀r2:List Value,r2=kQ f r1 (vI x12) (Value.agg (List.toArray [(vI x7),(vI x8),(vI x9),(vI x10),(vI x11),(vI x12),(vI x13),(vI x14)]))->((K.i64 x3)/\(K.i64 x4)/\(K.i64 x12)/\(mi<=(x6+1)/\(x6+1)<=ma)/\((F1 x3 x4 x12 (x6+1) r2).1/\(F1 x3 x4 x12 (x6+1) r2).2<(F1 x3 x4 x5 x6 r1).2)))))))/\
 (x7≠1->
 ((x7=2->
 (∃f:Option (Nat×Value),bb (vI x12) r1 0=some f/\∀b0:Bool,b0=rq f->∃r2:List Value,oO true f [(vI 0),(vI 0),(vI 0),(vI 0),(vI 0),(vI 0),(vI 0),(vI 0)] r2/\((b0=false->
 ((K.i64 x6)/\(K.i64 8)/\aI p0 n0 c0 x2 m2 x6 8))/\
 (b0=true->
 (∃x16:Int,br r2 2=some (vI x16)/\(K.i64 x16)/\((x16≠x9->
 ((K.i64 x6)/\(K.i64 8)/\aI p0 n0 c0 x2 m2 x6 8))/\
 (x16=x9->
 (∃x17:Int,br r2 3=some (vI x17)/\(K.i64 x17)/\((x17≠x10->
 ((K.i64 x6)/\(K.i64 8)/\aI p0 n0 c0 x2 m2 x6 8))/\
 (x17=x10->
 (∃x18:Int,br r2 4=some (vI x18)/\(K.i64 x18)/\((x18≠x11->
 ((K.i64 x6)/\(K.i64 8)/\aI p0 n0 c0 x2 m2 x6 8))/\
 (x18=x11->
 (∃f:Option (Nat×Value),bb (vI x12) r1 0=some f/\∀r3:List Value,r3=yG f r1->((K.i64 x3)/\(K.i64 x4)/\(K.i64 x5)/\(mi<=(x6+1)/\(x6+1)<=ma)/\((F1 x3 x4 x5 (x6+1) r3).1/\(F1 x3 x4 x5 (x6+1) r3).2<(F1 x3 x4 x5 x6 r1).2))))))))))))))))/\
 (x7≠2->
 ((x7=3->
 (∃f:Option (Nat×Value),bb (vI x12) r1 0=some f/\∀b0:Bool,b0=rq f->∃r2:List Value,oO true f [(vI 0),(vI 0),(vI 0),(vI 0),(vI 0),(vI 0),(vI 0),(vI 0)] r2/\((b0=false->
 ((K.i64 x6)/\(K.i64 8)/\aI p0 n0 c0 x2 m2 x6 8))/\
 (b0=true->
 (∃x16:Int,br r2 2=some (vI x16)/\(K.i64 x16)/\((x16≠x9->
 ((K.i64 x6)/\(K.i64 8)/\aI p0 n0 c0 x2 m2 x6 8))/\
 (x16=x9->
 (∃x17:Int,br r2 3=some (vI x17)/\(K.i64 x17)/\((x17≠x10->
 ((K.i64 x6)/\(K.i64 8)/\aI p0 n0 c0 x2 m2 x6 8))/\
 (x17=x10->
 (∃x18:Int,br r2 4=some (vI x18)/\(K.i64 x18)/\((x18≠x11->
 ((K.i64 x6)/\(K.i64 8)/\aI p0 n0 c0 x2 m2 x6 8))/\
 (x18=x11->
 (∃f:Option (Nat×Value),bb (vI x12) r1 0=some f/\∀r3:List Value,r3=yG f r1->((K.i64 x3)/\(K.i64 x4)/\(K.i64 x5)/\(mi<=(x6+1)/\(x6+1)<=ma)/\((F1 x3 x4 x5 (x6+1) r3).1/\(F1 x3 x4 x5 (x6+1) r3).2<(F1 x3 x4 x5 x6 r1).2))))))))))))))))/\
 (x7≠3->
 ((K.i64 x3)/\(K.i64 x4)/\(K.i64 x5)/\(mi<=(x6+1)/\(x6+1)<=ma)/\((F1 x3 x4 x5 (x6+1) r1).1/\(F1 x3 x4 x5 (x6+1) r1).2<(F1 x3 x4 x5 x6 r1).2)))))))))))))/\
 (x7=6->
 ((0<x6->
 ((x6-1)<(n0:Int)/\(p0≠none/\(cw m2 p0 ((0+((x6-1)*8))+1) 1/\(∃x16:Int,ae m2 p0 ((0+((x6-1)*8))+1)=some (vI x16)/\(K.i64 x16)/\((x8<x16->
 ((K.i64 x6)/\(K.i64 8)/\aI p0 n0 c0 x2 m2 x6 8))/\
 (x16<=x8->
 ((x6+1)<=9223372036854775807/\((K.i64 x3)/\(K.i64 x4)/\(K.i64 x5)/\(mi<=(x6+1)/\(x6+1)<=ma)/\((F1 x3 x4 x5 (x6+1) r1).1/\(F1 x3 x4 x5 (x6+1) r1).2<(F1 x3 x4 x5 x6 r1).2))))))))))/\
 (x6<=0->
 ((K.i64 x3)/\(K.i64 x4)/\(K.i64 x5)/\(mi<=(x6+1)/\(x6+1)<=ma)/\((F1 x3 x4 x5 (x6+1) r1).1/\(F1 x3 x4 x5 (x6+1) r1).2<(F1 x3 x4 x5 x6 r1).2)))))))))))))))))))))/\
 ((n0:Int)<=x6->
 ((K.i64 0)/\(K.i64 0)/\aI p0 n0 c0 x2 m 0 0)))))))))
set_option maxHeartbeats 4000000 in
theorem HL:B5:=by
 intro m p n c hn hc jobs hj1 hj2 ⟨l,hl⟩
 have hlen:=hl.1
 have ps:∀(m':Mem) (a b:Int),ac m m'->(a,b)=iG jobs l->aI p n c jobs m' a b:=fun m' a b h e l' hl'=>by
  rw [<-hl.uniq h hl'];exact e
 refine ⟨fun h=>⟨by constructor<;>decide,by constructor<;>decide,ps m _ _ (fV m) (by rw [iG,if_pos (by omega)])⟩,fun h0=>⟨fun h=>⟨by constructor<;>decide,by constructor<;>decide,ps m _ _ (fV m) (by rw [iG,if_pos (by omega)])⟩,fun h64 k1 => ?_⟩⟩
 have eT:iG jobs l=ix jobs [] l:=by rw [iG,if_neg (by omega)]
 refine ⟨fun a b x5 x6 r=>(∃i:Nat,x6=i/\i<=l.length/\ix jobs [] l=ix jobs (l.take i) (l.drop i)/\x5=fT (l.take i)/\r=(und (l.take i)).map kL/\As.Trace (l.take i),((n:Int)-x6).toNat),
  ⟨by constructor<;>decide,by constructor<;>decide,by constructor<;>decide,by constructor<;>decide,0,rfl,by omega,rfl,rfl,rfl,As.Trace.nil⟩,?_⟩
 rintro x3 a3 b3 x4 a4 b4 x5 a5 b5 x6 a6 b6 r ⟨i,rfl,hi,hgo,rfl,rfl,htr⟩
 refine ⟨fun hlt => ?_,fun hge => ?_⟩
 ·obtain ⟨x,hx,hp,hev,hhas⟩:=hl.at_ (i:=(i:Int)) (by omega) hlt
  rw [Int.toNat_natCast] at hx
  have hil:i<l.length:=by omega
  obtain ⟨k,at',job,due,att,run,why,whn⟩:=x
  have c:=hev
  obtain ⟨c1,c2,c3,c4,c5,c6,c7,c8⟩:=c
  simp only at c1 c2 c3 c4 c5 c6 c7 c8
  refine ⟨by omega,hp,hhas,k,c1.1,c1.2,at',c2.1,c2.2,job,c3.1,c3.2,due,c4.1,c4.2,att,c5.1,c5.2,run,c6.1,c6.2,why,c7.1,c7.2,whn,c8.1,c8.2,trivial,?_⟩
  intro m2 hm2 e he1 he2 hev2
  have hE:e=evP ⟨k,at',job,due,att,run,why,whn⟩:=hev2
  generalize hX:(⟨k,at',job,due,att,run,why,whn⟩:Ev)=X at *
  have hk:X.kind=k:=by rw [<-hX]
  have hat:X.at_=at':=by rw [<-hX]
  have hjob:X.job=job:=by rw [<-hX]
  have hdue:X.due=due:=by rw [<-hX]
  have hatt:X.attempt=att:=by rw [<-hX]
  have hrun:X.run=run:=by rw [<-hX]
  have hdrop:l.drop i=X::l.drop (i+1):=by
   rw [List.drop_eq_getElem_cons hil]
   rw [List.getElem?_eq_getElem hil] at hx
   rw [Option.some.inj hx]
  have htake:l.take (i+1)=l.take i++[X]:=by
   rw [<-List.take_append_getElem hil]
   rw [List.getElem?_eq_getElem hil] at hx
   rw [Option.some.inj hx]
  have hpl:((l.take i).length:Int)=i:=by rw [List.length_take];omega
  have stop:∀e:Int,K.i64 e->cS jobs (l.take i) X=e->e≠0->(K.i64 (i:Int))/\(K.i64 e)/\aI p n c jobs m2 i e:=fun e hK h1 h2=>by
   refine ⟨dy (by omega) (by omega),hK,ps m2 _ _ hm2 ?_⟩
   rw [eT,hgo,hdrop,ix,h1,if_pos h2,hpl]
  have again:∀(lr:Int) (r:List Value),K.i64 lr->cS jobs (l.take i) X=0->DE (l.take i) X->lr=fT (l.take i++[X])->r=(und (l.take i++[X])).map kL->
    (K.i64 x3)/\(K.i64 x4)/\(K.i64 lr)/\(IntKind.i64.min<=((i:Int)+1)/\((i:Int)+1)<=IntKind.i64.max)/\
    ((∃i':Nat,(i:Int)+1=i'/\i'<=l.length/\ix jobs [] l=ix jobs (l.take i') (l.drop i')/\lr=fT (l.take i')/\r=(und (l.take i')).map kL/\As.Trace (l.take i'))/\((n:Int)-((i:Int)+1)).toNat<((n:Int)-(i:Int)).toNat):=fun lr r hK h1 hpo h2 h3=>by
   refine ⟨⟨a3,b3⟩,⟨a4,b4⟩,hK,dy (by omega) (by omega),⟨i+1,by omega,by omega,?_,by rw [htake];exact h2,by rw [htake];exact h3,by rw [htake];exact As.Trace.snoc htr hpo⟩,by omega⟩
   rw [hgo,hdrop,ix,if_neg (by rw [h1];simp),htake]
  have k8:K.i64 8:=by constructor<;>decide
  have hlast:=Ez htr
  have hinv:=Ds htr
  have hK5:K.i64 (fT (l.take i)):=⟨a5,b5⟩
  have hi1:(i:Int)+1<=9223372036854775807:=by omega
  -- the run's part
  have launch:k=1->cS jobs (l.take i) X=ng (l.take i) X->(run≠fT (l.take i)+1->cS jobs (l.take i) X=8)/\(run=fT (l.take i)+1->cS jobs (l.take i) X=0/\DE (l.take i) X/\run=fT (l.take i++[X])/\bb (.int .i64 run) ((und (l.take i)).map kL) 0=some none/\(und (l.take i)).map kL++[kL X]=(und (l.take i++[X])).map kL):=fun hk1 he=>by
   rw [he]
   unfold ng
   rw [hk,if_pos hk1,hrun]
   refine ⟨fun h=>by rw [if_pos h],fun h=>⟨by rw [if_neg (by omega)],⟨fun _=>by rw [hrun];exact h,fun he => ?_⟩,?_,?_,?_⟩⟩
   ·simp only [iY,hk,hk1] at he;simp at he
   ·rw [iL,hk,if_pos hk1,hrun]
   ·refine Bt run _ 0 fun u hu => ?_
    have:=hinv.2.2 u hu
    omega
   ·rw [pk];unfold wv;rw [hk,if_pos hk1];simp
  have other:k≠1->k≠2->k≠3->cS jobs (l.take i) X=ng (l.take i) X->cS jobs (l.take i) X=0/\DE (l.take i) X/\fT (l.take i)=fT (l.take i++[X])/\(und (l.take i)).map kL=(und (l.take i++[X])).map kL:=fun g1 g2 g3 he=>by
   have hne:iY X=false:=by simp [iY,hk,g2,g3]
   rw [he]
   unfold ng
   rw [hk,if_neg g1,if_neg (by rw [hne];simp)]
   refine ⟨rfl,⟨fun h=>(g1 (by rw [<-hk];exact h)).elim,fun h=>by rw [hne] at h;cases h⟩,?_,?_⟩
   ·rw [iL,hk,if_neg g1]
   ·rw [pk];unfold wv;rw [hk,if_neg g1,if_neg (by rw [hne];simp)]
  have fin:(k=2\/k=3)->cS jobs (l.take i) X=ng (l.take i) X->∃f:Option (Nat×Value),bb (.int .i64 run) ((und (l.take i)).map kL) 0=some f/\∀b0:Bool,b0=rq f->∃r2:List Value,oO true f [.int .i64 0,.int .i64 0,.int .i64 0,.int .i64 0,.int .i64 0,.int .i64 0,.int .i64 0,.int .i64 0] r2/\
    (b0 = false -> cS jobs (l.take i) X = 8) /\ (b0 = true -> ∃ y1, br r2 2 = some (.int .i64 y1) /\ K.i64 y1 /\ (y1 ≠ job -> cS jobs (l.take i) X = 8) /\ (y1 = job -> ∃ y2, br r2 3 = some (.int .i64 y2) /\ K.i64 y2 /\ (y2 ≠ due -> cS jobs (l.take i) X = 8) /\ (y2 = due -> ∃ y3, br r2 4 = some (.int .i64 y3) /\ K.i64 y3 /\
     (y3≠att->cS jobs (l.take i) X=8)/\(y3=att->cS jobs (l.take i) X=0/\DE (l.take i) X/\fT (l.take i)=fT (l.take i++[X])/\yG f ((und (l.take i)).map kL)=(und (l.take i++[X])).map kL)))):=fun hk23 he=>by
   have hend:iY X=true:=by rcases hk23 with h | h<;>simp [iY,hk,h]
   have hk1:k≠1:=by omega
   have eR:cS jobs (l.take i) X=if (und (l.take i)).any (jl X)=true then 0 else 8:=by
    rw [he];unfold ng;rw [hk,if_neg hk1,if_pos hend]
   by_cases hu:∃u∈und (l.take i),u.run=run
   ·obtain ⟨u,hu1,hu2⟩:=hu
    obtain ⟨j,f1,f2⟩:=G8 run _ 0 u hinv.2.1 hu1 hu2
    have hany:=Iq X (und (l.take i)) u hinv.2.1 hu1 (by rw [hrun];exact hu2)
    rw [hany] at eR
    have hul:u∈l:=List.mem_of_mem_take (HO _ u hu1)
    obtain ⟨ju,hju⟩:=List.getElem?_of_mem hul
    have hue:=hl.2 ju u hju
    refine ⟨_,f1,fun b0 hb0=>⟨eP u,⟨rfl,by simp [eP,bK],rfl⟩,(fun h=>by rw [hb0] at h;cases h),fun _=>⟨u.job,rfl,hue.2.2.1.2,fun h => ?_,fun e1=>⟨u.due,rfl,hue.2.2.2.1.2,fun h => ?_,fun e2=>⟨u.attempt,rfl,hue.2.2.2.2.1.2,fun h => ?_,fun e3 => ?_⟩⟩⟩⟩⟩
    ·rw [eR,if_neg (by rw [hjob];simp [h])]
    ·rw [eR,if_neg (by rw [hdue];simp [h])]
    ·rw [eR,if_neg (by rw [hatt];simp [h])]
    ·refine ⟨by rw [eR,if_pos (by rw [hjob,hdue,hatt];simp [e1,e2,e3])],⟨fun h=>(hk1 (by rw [<-hk];exact h)).elim,fun _=>⟨u,hu1,by rw [hrun];exact hu2,by rw [hjob];exact e1,by rw [hdue];exact e2,by rw [hatt];exact e3⟩⟩,?_,?_⟩
     ·rw [iL,hk,if_neg hk1]
     ·rw [pk];unfold wv;rw [hk,if_neg hk1,if_pos hend,hrun,<-f2]
      simp only [yG,Nat.zero_add]
   ·have hno:∀u∈und (l.take i),u.run≠run:=fun u h1 h2=>hu ⟨u,h1,h2⟩
    refine ⟨none,Bt run _ 0 hno,fun b0 hb0=>⟨_,⟨rfl,by simp [bK],rfl⟩,fun _ => ?_,fun h=>by rw [hb0] at h;cases h⟩⟩
    rw [eR,if_neg]
    rw [Bool.not_eq_true,List.any_eq_false]
    intro z hz
    have:=hno z hz
    have hb:(z.run==X.run)=false:=by rw [hrun];simp;omega
    simp [jl,hb]
  have toRun:e=0->(k≠6->job<jobs)->lG (l.take i) X=false->cS jobs (l.take i) X=ng (l.take i) X:=fun g1 g2 g3=>by
   unfold cS
   rw [if_neg (by rw [<-hE,g1];simp),if_neg (by rw [hk,hjob];intro h;have:=g2 h.1;omega),if_neg (by rw [g3];simp)]
  have toBack:e=0->(k≠6->job<jobs)->lG (l.take i) X=true->cS jobs (l.take i) X=8:=fun g1 g2 g3=>by
   unfold cS
   rw [if_neg (by rw [<-hE,g1];simp),if_neg (by rw [hk,hjob];intro h;have:=g2 h.1;omega),if_pos g3]
  have bw0:i=0->lG (l.take i) X=false:=fun h=>by subst h;rfl
  have bw:0<i->∃y,bj m2 p (0+((i:Int)-1)*8+1) y/\lG (l.take i) X=decide (at'<y):=fun h=>by
   have hy:l[i-1]? = some (l[i-1]'(by omega)):=List.getElem?_eq_getElem (by omega)
   have hc:=(hl.sub hm2).2 (i-1) _ hy
   refine ⟨(l[i-1]'(by omega)).at_,?_,?_⟩
   ·have:=hc.2.1
    rw [show ((i-1:Nat):Int)*8+1=0+((i:Int)-1)*8+1 by omega] at this
    exact this
   ·rcases rU (l:=l) (i:=i) (x:=X) with h1 | h1
    ·rw [h1,hy];simp [h,hat]
    ·omega
  refine ⟨fun h=>stop e ⟨he1,he2⟩ (by unfold cS;rw [if_pos (by rw [<-hE];exact h),hE]) h,fun he0=>⟨fun hk6=>⟨fun hjj=>stop 3 (by constructor<;>decide) (by unfold cS;rw [if_neg (by rw [<-hE,he0];simp),if_pos ⟨by rw [hk];exact hk6,by rw [hjob];exact hjj⟩]) (by decide),fun hjj=>⟨fun hi0 => ?_,fun hi0 => ?_⟩⟩,fun hk6=>⟨fun hi0 => ?_,fun hi0 => ?_⟩⟩⟩
  ·obtain ⟨y,hy1,hy2⟩:=bw (by omega)
   refine ⟨by omega,hp,hy1.has,y,hy1.1,hy1.2,fun hlt=>stop 8 k8 (toBack he0 (fun _=>hjj) (by rw [hy2];simp [hlt])) (by decide),fun hle => ?_⟩
   have hr:=toRun he0 (fun _=>hjj) (by rw [hy2];simp;omega)
   refine ⟨fun hk1 => ?_,fun hk1=>⟨fun hk2 => ?_,fun hk2=>⟨fun hk3 => ?_,fun hk3 => ?_⟩⟩⟩
   ·obtain ⟨g1,g2⟩:=launch hk1 hr
    refine ⟨by omega,fun h=>stop 8 k8 (g1 h) (by decide),fun h=>⟨none,(g2 h).2.2.2.1,fun r2 hr2=>⟨hi1,again _ _ c6.2 (g2 h).1 (g2 h).2.1 (g2 h).2.2.1 ?_⟩⟩⟩
    rw [hr2,<-(g2 h).2.2.2.2];rw [<-hX];rfl
   ·obtain ⟨f,f1,f2⟩:=fin (.inl hk2) hr
    refine ⟨f,f1,fun b0 hb0 => ?_⟩
    obtain ⟨r2,q1,q2,q3⟩:=f2 b0 hb0
    refine ⟨r2,q1,fun h=>stop 8 k8 (q2 h) (by decide),fun h => ?_⟩
    obtain ⟨y1,s1,s2,s3,s4⟩:=q3 h
    refine ⟨y1,s1,s2,fun h=>stop 8 k8 (s3 h) (by decide),fun h => ?_⟩
    obtain ⟨y2,s1,s2,s3,s4⟩:=s4 h
    refine ⟨y2,s1,s2,fun h=>stop 8 k8 (s3 h) (by decide),fun h => ?_⟩
    obtain ⟨y3,s1,s2,s3,s4⟩:=s4 h
    refine ⟨y3,s1,s2,fun h=>stop 8 k8 (s3 h) (by decide),fun h => ?_⟩
    obtain ⟨s5,s6,s7,s8⟩:=s4 h
    exact ⟨f,f1,fun r3 hr3=>⟨hi1,again _ _ hK5 s5 s6 s7 (by rw [hr3,s8])⟩⟩
   ·obtain ⟨f,f1,f2⟩:=fin (.inr hk3) hr
    refine ⟨f,f1,fun b0 hb0 => ?_⟩
    obtain ⟨r2,q1,q2,q3⟩:=f2 b0 hb0
    refine ⟨r2,q1,fun h=>stop 8 k8 (q2 h) (by decide),fun h => ?_⟩
    obtain ⟨y1,s1,s2,s3,s4⟩:=q3 h
    refine ⟨y1,s1,s2,fun h=>stop 8 k8 (s3 h) (by decide),fun h => ?_⟩
    obtain ⟨y2,s1,s2,s3,s4⟩:=s4 h
    refine ⟨y2,s1,s2,fun h=>stop 8 k8 (s3 h) (by decide),fun h => ?_⟩
    obtain ⟨y3,s1,s2,s3,s4⟩:=s4 h
    refine ⟨y3,s1,s2,fun h=>stop 8 k8 (s3 h) (by decide),fun h => ?_⟩
    obtain ⟨s5,s6,s7,s8⟩:=s4 h
    exact ⟨f,f1,fun r3 hr3=>⟨hi1,again _ _ hK5 s5 s6 s7 (by rw [hr3,s8])⟩⟩
   ·obtain ⟨s5,s6,s7,s8⟩:=other hk1 hk2 hk3 hr
    exact ⟨hi1,again _ _ hK5 s5 s6 s7 s8⟩
  ·have hr:=toRun he0 (fun _=>hjj) (bw0 (by omega))
   refine ⟨fun hk1 => ?_,fun hk1=>⟨fun hk2 => ?_,fun hk2=>⟨fun hk3 => ?_,fun hk3 => ?_⟩⟩⟩
   ·obtain ⟨g1,g2⟩:=launch hk1 hr
    refine ⟨by omega,fun h=>stop 8 k8 (g1 h) (by decide),fun h=>⟨none,(g2 h).2.2.2.1,fun r2 hr2=>again _ _ c6.2 (g2 h).1 (g2 h).2.1 (g2 h).2.2.1 ?_⟩⟩
    rw [hr2,<-(g2 h).2.2.2.2];rw [<-hX];rfl
   ·obtain ⟨f,f1,f2⟩:=fin (.inl hk2) hr
    refine ⟨f,f1,fun b0 hb0 => ?_⟩
    obtain ⟨r2,q1,q2,q3⟩:=f2 b0 hb0
    refine ⟨r2,q1,fun h=>stop 8 k8 (q2 h) (by decide),fun h => ?_⟩
    obtain ⟨y1,s1,s2,s3,s4⟩:=q3 h
    refine ⟨y1,s1,s2,fun h=>stop 8 k8 (s3 h) (by decide),fun h => ?_⟩
    obtain ⟨y2,s1,s2,s3,s4⟩:=s4 h
    refine ⟨y2,s1,s2,fun h=>stop 8 k8 (s3 h) (by decide),fun h => ?_⟩
    obtain ⟨y3,s1,s2,s3,s4⟩:=s4 h
    refine ⟨y3,s1,s2,fun h=>stop 8 k8 (s3 h) (by decide),fun h => ?_⟩
    obtain ⟨s5,s6,s7,s8⟩:=s4 h
    exact ⟨f,f1,fun r3 hr3=>again _ _ hK5 s5 s6 s7 (by rw [hr3,s8])⟩
   ·obtain ⟨f,f1,f2⟩:=fin (.inr hk3) hr
    refine ⟨f,f1,fun b0 hb0 => ?_⟩
    obtain ⟨r2,q1,q2,q3⟩:=f2 b0 hb0
    refine ⟨r2,q1,fun h=>stop 8 k8 (q2 h) (by decide),fun h => ?_⟩
    obtain ⟨y1,s1,s2,s3,s4⟩:=q3 h
    refine ⟨y1,s1,s2,fun h=>stop 8 k8 (s3 h) (by decide),fun h => ?_⟩
    obtain ⟨y2,s1,s2,s3,s4⟩:=s4 h
    refine ⟨y2,s1,s2,fun h=>stop 8 k8 (s3 h) (by decide),fun h => ?_⟩
    obtain ⟨y3,s1,s2,s3,s4⟩:=s4 h
    refine ⟨y3,s1,s2,fun h=>stop 8 k8 (s3 h) (by decide),fun h => ?_⟩
    obtain ⟨s5,s6,s7,s8⟩:=s4 h
    exact ⟨f,f1,fun r3 hr3=>again _ _ hK5 s5 s6 s7 (by rw [hr3,s8])⟩
   ·obtain ⟨s5,s6,s7,s8⟩:=other hk1 hk2 hk3 hr
    exact again _ _ hK5 s5 s6 s7 s8
  ·obtain ⟨y,hy1,hy2⟩:=bw (by omega)
   refine ⟨by omega,hp,hy1.has,y,hy1.1,hy1.2,fun hlt=>stop 8 k8 (toBack he0 (fun h=>(h hk6).elim) (by rw [hy2];simp [hlt])) (by decide),fun hle => ?_⟩
   have hr:=toRun he0 (fun h=>(h hk6).elim) (by rw [hy2];simp;omega)
   obtain ⟨s5,s6,s7,s8⟩:=other (by omega) (by omega) (by omega) hr
   exact ⟨hi1,again _ _ hK5 s5 s6 s7 s8⟩
  ·have hr:=toRun he0 (fun h=>(h hk6).elim) (bw0 (by omega))
   obtain ⟨s5,s6,s7,s8⟩:=other (by omega) (by omega) (by omega) hr
   exact again _ _ hK5 s5 s6 s7 s8
 ·refine ⟨by constructor<;>decide,by constructor<;>decide,ps m _ _ (fV m) ?_⟩
  rw [eT,hgo,List.drop_eq_nil_of_le (by omega)]
  rfl
theorem kZ:cI Tryz.prog wu:=
 cX (aZ [vF] ⟨yq,trivial⟩ rfl) (ph _ [⟨(113,4),[],[],[],[1]⟩] [116]) 1000 wu _ rfl rfl (Eq.mp (show B5=_ by kernel_rfl) HL)
end
end Go.Proofs.YtjabmipkllkfbaaGreatDoor.Vc
