/-
  Contracts, by their trees; Contracts, by their trees; Contracts, by their trees.
-/
import Derived.Test.YtjabmipkllkfbaaGreatDoorZH
import Derived.Test.YtjabmipkllkfbaaGreatDoorZG
set_option linter.unusedVariables false
set_option linter.unusedSimpArgs false
set_option maxHeartbeats 4000000
namespace Go.Proofs.YtjabmipkllkfbaaGreatDoor.Vc
section
def iA (n lo hi:Int) (m:Mem):Prop:=True
def du (n lo hi:Int) (m:Mem) (r:Bool):Prop:=r=As.inB n lo hi
def Jp:Sp:={ args:=[.i .i64,.i .i64,.i .i64],grp:=[none,none,none],res:=[.b],rgrp:=[none],fn:=116,spec:=fun a0 a1 a2=>(iA a0 a1 a2,du a0 a1 a2) }
def Es:Prop:=∀m:Mem,∀x0:Int,mi<=x0->x0<=ma->∀x1:Int,mi<=x1->x1<=ma->∀x2:Int,mi<=x2->x2<=ma->iA x0 x1 x2 m->
 ((x1<=x0->
 (du x0 x1 x2 m (decide (x0<=x2))))/\
 (x0<x1->
 (du x0 x1 x2 m false)))
theorem IQ:Es:=by
 intro m x0 _ _ x1 _ _ x2 _ _ _
 simp only [du,As.inB]
 exact ⟨fun h=>by simp [h],fun h=>by simp;omega⟩
theorem vP:cI Tryz.prog Jp:=
 cX (aZ [] trivial rfl) (bC _ []) 1000 Jp _ rfl rfl (Eq.mp (show Es=_ by kernel_rfl) IQ)
def ik (t u:Int) (m:Mem):Prop:=True
def bU (t u:Int) (m:Mem) (z:Int):Prop:=z=As.limP ⟨t,u⟩
def Hj:Sp:={ args:=[.i .i64,.i .i64],grp:=[some 2],res:=[.i .i64],rgrp:=[none],fn:=76,spec:=fun a0 a1=>(ik a0 a1,bU a0 a1) }
def BK:Prop:=∀m:Mem,∀x0:Int,mi<=x0->x0<=ma->∀x1:Int,mi<=x1->x1<=ma->ik x0 x1 m->
 ((fy x0 0 68719476736 m)/\∀m1:Mem,ac m m1->∀b0:Bool,bS x0 0 68719476736 m1 b0->
 ((fy x1 0 68719476736 m1)/\∀m2:Mem,ac m1 m2->∀b1:Bool,bS x1 0 68719476736 m2 b1->
 ((0<x0->
 ((b0=false->
 ((K.i64 16)/\bU x0 x1 m2 16))/\
 (b0=true->
 ((b1=false->
 ((K.i64 16)/\bU x0 x1 m2 16))/\
 (b1=true->
 ((K.i64 0)/\bU x0 x1 m2 0))))))/\
 (x0<=0->
 ((b0=false->
 ((K.i64 16)/\bU x0 x1 m2 16))/\
 (b0=true->
 ((b1=false->
 ((K.i64 16)/\bU x0 x1 m2 16))/\
 (b1=true->
 ((x1≠0->
 ((K.i64 16)/\bU x0 x1 m2 16))/\
 (x1=0->
 ((K.i64 0)/\bU x0 x1 m2 0)))))))))))
theorem Hk:BK:=by
 intro m x0 _ _ x1 _ _ _
 repeat' first | (refine And.intro ?_ ?_) | intro _
 all_goals first
  | trivial
  | (constructor<;>decide)
  | (simp_all [bS,bU,As.limP,As.ruleE,As.inB,As.spanM];try omega)
theorem BL:cI Tryz.prog Hj:=
 cX (aZ [CC] ⟨rn,trivial⟩ rfl) (bC _ []) 1000 Hj _ rfl rfl (Eq.mp (show BK=_ by kernel_rfl) Hk)
def i7 (a b c:Int) (m:Mem):Prop:=True
def dp (a b c:Int) (m:Mem) (z:Int):Prop:=z=As.brkP ⟨a,b,c⟩
def I5:Sp:={ args:=[.i .i64,.i .i64,.i .i64],grp:=[some 3],res:=[.i .i64],rgrp:=[none],fn:=119,spec:=fun a0 a1 a2=>(i7 a0 a1 a2,dp a0 a1 a2) }
def BJ:Prop:=∀m:Mem,∀x0:Int,mi<=x0->x0<=ma->∀x1:Int,mi<=x1->x1<=ma->∀x2:Int,mi<=x2->x2<=ma->i7 x0 x1 x2 m->
 (((x0=0/\(x1=0/\x2=0))->
 ((K.i64 0)/\dp x0 x1 x2 m 0))/\
 ((x0=0->(x1=0->x2≠0))->
 ((iA x0 1 100 m)/\∀m1:Mem,ac m m1->∀b0:Bool,du x0 1 100 m1 b0->
 ((fy x1 1 68719476736 m1)/\∀m2:Mem,ac m1 m2->∀b1:Bool,bS x1 1 68719476736 m2 b1->
 ((iA x2 1 100 m2)/\∀m3:Mem,ac m2 m3->∀b2:Bool,du x2 1 100 m3 b2->
 ((b0=false->
 ((K.i64 16)/\dp x0 x1 x2 m3 16))/\
 (b0=true->
 ((b1=false->
 ((K.i64 16)/\dp x0 x1 x2 m3 16))/\
 (b1=true->
 ((b2=false->
 ((K.i64 16)/\dp x0 x1 x2 m3 16))/\
 (b2=true->
 ((K.i64 0)/\dp x0 x1 x2 m3 0))))))))))))
theorem Hi:BJ:=by
 intro m x0 _ _ x1 _ _ x2 _ _ _
 repeat' first | (refine And.intro ?_ ?_) | intro _
 all_goals first
  | trivial
  | (constructor<;>decide)
  | (simp_all [bS,du,dp,As.brkP,As.ruleE,As.inB,As.spanM];try omega)
theorem Hh:cI Tryz.prog I5:=
 cX (aZ [CC,Jp] ⟨rn,⟨vP,trivial⟩⟩ rfl) (bC _ []) 1000 I5 _ rfl rfl (Eq.mp (show BJ=_ by kernel_rfl) Hi)
def ja (a b c d:Int) (m:Mem):Prop:=True
def cV (a b c d:Int) (m:Mem) (z:Int):Prop:=z=As.retP_ ⟨a,b,c,d⟩
def I8:Sp:={ args:=[.i .i64,.i .i64,.i .i64,.i .i64],grp:=[some 4],res:=[.i .i64],rgrp:=[none],fn:=120,spec:=fun a0 a1 a2 a3=>(ja a0 a1 a2 a3,cV a0 a1 a2 a3) }
def BO:Prop:=∀m:Mem,∀x0:Int,mi<=x0->x0<=ma->∀x1:Int,mi<=x1->x1<=ma->∀x2:Int,mi<=x2->x2<=ma->∀x3:Int,mi<=x3->x3<=ma->ja x0 x1 x2 x3 m->
 (((x0=0/\(x1=0/\(x2=0/\x3=0)))->
 ((K.i64 0)/\cV x0 x1 x2 x3 m 0))/\
 ((x0=0->(x1=0->(x2=0->x3≠0)))->
 ((iA x0 1 20 m)/\∀m1:Mem,ac m m1->∀b0:Bool,du x0 1 20 m1 b0->
 ((fy x1 1 68719476736 m1)/\∀m2:Mem,ac m1 m2->∀b1:Bool,bS x1 1 68719476736 m2 b1->
 ((fy x2 x1 68719476736 m2)/\∀m3:Mem,ac m2 m3->∀b2:Bool,bS x2 x1 68719476736 m3 b2->
 ((fy x3 0 68719476736 m3)/\∀m4:Mem,ac m3 m4->∀b3:Bool,bS x3 0 68719476736 m4 b3->
 ((b0=false->
 ((K.i64 16)/\cV x0 x1 x2 x3 m4 16))/\
 (b0=true->
 ((b1=false->
 ((K.i64 16)/\cV x0 x1 x2 x3 m4 16))/\
 (b1=true->
 ((b2=false->
 ((K.i64 16)/\cV x0 x1 x2 x3 m4 16))/\
 (b2=true->
 ((b3=false->
 ((K.i64 16)/\cV x0 x1 x2 x3 m4 16))/\
 (b3=true->
 ((K.i64 0)/\cV x0 x1 x2 x3 m4 0)))))))))))))))
theorem Hq:BO:=by
 intro m x0 _ _ x1 _ _ x2 _ _ x3 _ _ _
 repeat' first | (refine And.intro ?_ ?_) | intro _
 all_goals first
  | trivial
  | (constructor<;>decide)
  | (simp_all [bS,du,cV,As.retP_,As.ruleE,As.inB,As.spanM];try omega)
theorem Hp:cI Tryz.prog I8:=
 cX (aZ [CC,Jp] ⟨rn,⟨vP,trivial⟩⟩ rfl) (bC _ []) 1000 I8 _ rfl rfl (Eq.mp (show BO=_ by kernel_rfl) Hq)
def i9 (a b:Int) (m:Mem):Prop:=True
def dq (a b:Int) (m:Mem) (z:Int):Prop:=z=As.misP a b
def I6:Sp:={ args:=[.i .i64,.i .i64],grp:=[none,none],res:=[.i .i64],rgrp:=[none],fn:=118,spec:=fun a0 a1=>(i9 a0 a1,dq a0 a1) }
def BM:Prop:=∀m:Mem,∀x0:Int,mi<=x0->x0<=ma->∀x1:Int,mi<=x1->x1<=ma->i9 x0 x1 m->
 ((x0=3->
 ((iA x1 1 100 m)/\∀m1:Mem,ac m m1->∀b0:Bool,du x1 1 100 m1 b0->
 ((b0=false->
 ((K.i64 16)/\dq x0 x1 m1 16))/\
 (b0=true->
 ((K.i64 0)/\dq x0 x1 m1 0)))))/\
 (x0≠3->
 ((iA x0 0 2 m)/\∀m1:Mem,ac m m1->∀b0:Bool,du x0 0 2 m1 b0->
 ((b0=false->
 ((K.i64 16)/\dq x0 x1 m1 16))/\
 (b0=true->
 ((x1≠0->
 ((K.i64 16)/\dq x0 x1 m1 16))/\
 (x1=0->
 ((K.i64 0)/\dq x0 x1 m1 0))))))))
theorem Hm:BM:=by
 intro m x0 _ _ x1 _ _ _
 repeat' first | (refine And.intro ?_ ?_) | intro _
 all_goals first
  | trivial
  | (constructor<;>decide)
  | (simp_all [bS,du,dq,As.misP,As.ruleE,As.inB,As.spanM];try omega)
theorem Hl:cI Tryz.prog I6:=
 cX (aZ [Jp] ⟨vP,trivial⟩ rfl) (bC _ []) 1000 I6 _ rfl rfl (Eq.mp (show BM=_ by kernel_rfl) Hm)
end
section
def Gw (a b c:Int):Int:=if a<0\/253402300799<a\/b<1\/68719476736<b\/c<0\/1000000<c then 16 else 0
def HG:List (Int×Int)->Int
 | []=>0
 | (a,b)::l=>if As.timeB a=false\/As.timeB b=false then 14 else if b<a then 8 else HG l
def mb (S:List (Int×Int)):Int:=if 64<S.length then 12 else HG S
theorem Ff {S:List (Int×Int)} {i:Nat} {a b:Int} (h:S[i]? = some (a,b)):S.drop i=(a,b)::S.drop (i+1):=by
 obtain ⟨hi,e⟩:=List.getElem?_eq_some_iff.1 h
 rw [List.drop_eq_getElem_cons hi,e]
def sA (a b c:Int) (m:Mem):Prop:=True
def dV (a b c:Int) (m:Mem) (z:Int):Prop:=z=Gw a b c
def ID:Sp:={ args:=[.i .i64,.i .i64,.i .i64],grp:=[some 3],res:=[.i .i64],rgrp:=[none],fn:=158,spec:=fun a0 a1 a2=>(sA a0 a1 a2,dV a0 a1 a2) }
def AO:Prop:=∀m:Mem,∀x0:Int,mi<=x0->x0<=ma->∀x1:Int,mi<=x1->x1<=ma->∀x2:Int,mi<=x2->x2<=ma->sA x0 x1 x2 m->
 ((x0<0->
 ((K.i64 16)/\dV x0 x1 x2 m 16))/\
 (0<=x0->
 ((253402300799<x0->
 ((K.i64 16)/\dV x0 x1 x2 m 16))/\
 (x0<=253402300799->
 ((x1<1->
 ((K.i64 16)/\dV x0 x1 x2 m 16))/\
 (1<=x1->
 ((68719476736<x1->
 ((K.i64 16)/\dV x0 x1 x2 m 16))/\
 (x1<=68719476736->
 ((x2<0->
 ((K.i64 16)/\dV x0 x1 x2 m 16))/\
 (0<=x2->
 ((1000000<x2->
 ((K.i64 16)/\dV x0 x1 x2 m 16))/\
 (x2<=1000000->
 ((K.i64 0)/\dV x0 x1 x2 m 0)))))))))))))
theorem Gv:AO:=by
 intro m x0 _ _ x1 _ _ x2 _ _ _
 repeat' first | (refine And.intro ?_ ?_) | intro _
 all_goals first
  | (constructor<;>decide)
  | (simp only [dV,Gw];first | rw [if_pos (by omega)] | rw [if_neg (by omega)])
theorem Gu:cI Tryz.prog ID:=
 cX (aZ [] trivial rfl) (bC _ []) 1000 ID _ rfl rfl (Eq.mp (show AO=_ by kernel_rfl) Gv)
def oo (t:Int) (m:Mem):Prop:=True
def iJ (t:Int) (m:Mem) (r:Bool):Prop:=r=As.timeB t
def Iw:Sp:={ args:=[.i .i64],grp:=[none],res:=[.b],rgrp:=[none],fn:=125,spec:=fun a0=>(oo a0,iJ a0) }
def Ap:Prop:=∀m:Mem,∀x0:Int,mi<=x0->x0<=ma->oo x0 m->
 ((0<=x0->
 (iJ x0 m (decide (x0<=253402300799))))/\
 (x0<0->
 (iJ x0 m false)))
theorem Ge:Ap:=by
 intro m x0 _ _ _
 simp only [iJ,As.timeB]
 exact ⟨fun h=>by simp [h],fun h=>by simp;omega⟩
theorem Gc:cI Tryz.prog Iw:=
 cX (aZ [] trivial rfl) (bC _ []) 1000 Iw _ rfl rfl (Eq.mp (show Ap=_ by kernel_rfl) Ge)
def lF (p:Option Addr) (n c:Nat) (m:Mem):Prop:=∃S,dN m p n S
def cR (p:Option Addr) (n c:Nat) (m:Mem) (z:Int):Prop:=∀S,dN m p n S->z=mb S
def Iu:Sp:={ args:=[.sl],grp:=[none],res:=[.i .i64],rgrp:=[none],fn:=124,spec:=fun a0 a1 a2=>(lF a0 a1 a2,cR a0 a1 a2) }
def Ao:Prop:=∀m:Mem,∀(p0:Option Addr) (n0 c0:Nat),n0<=9223372036854775807->c0<=9223372036854775807->lF p0 n0 c0 m->
 ((64<(n0:Int)->
 ((K.i64 12)/\cR p0 n0 c0 m 12))/\
 ((n0:Int)<=64->
 (∃F1:Int->Int->Prop×Nat,((K.i64 0)/\(K.i64 0)/\(F1 0 0).1)/\
 ∀x2:Int,mi<=x2->x2<=ma->∀x3:Int,mi<=x3->x3<=ma->(F1 x2 x3).1->
 ((x3<(n0:Int)->
 (0<=x3/\(p0≠none/\(cw m p0 (0+(x3*2)) 2/\(∃x4:Int,ae m p0 (0+(x3*2))=some (vI x4)/\(K.i64 x4)/\((oo x4 m)/\∀m2:Mem,ac m m2->∀b0:Bool,iJ x4 m2 b0->
 ((b0=false->
 ((K.i64 14)/\cR p0 n0 c0 m2 14))/\
 (b0=true->
 (∃x5:Int,ae m2 p0 ((0+(x3*2))+1)=some (vI x5)/\(K.i64 x5)/\((oo x5 m2)/\∀m3:Mem,ac m2 m3->∀b1:Bool,iJ x5 m3 b1->
 ((b1=false->
 ((K.i64 14)/\cR p0 n0 c0 m3 14))/\
 (b1=true->
 ((x5<x4->
 ((K.i64 8)/\cR p0 n0 c0 m3 8))/\
 (x4<=x5->
 ((x3+1)<=9223372036854775807/\((K.i64 x2)/\(mi<=(x3+1)/\(x3+1)<=ma)/\((F1 x2 (x3+1)).1/\(F1 x2 (x3+1)).2<(F1 x2 x3).2)))))))))))))))))/\
 ((n0:Int)<=x3->
 ((K.i64 0)/\cR p0 n0 c0 m 0))))))
theorem FZ:Ao:=by
 intro m p n c hn hc ⟨S,hS⟩
 have ps:∀(m':Mem) (z:Int),ac m m'->z=mb S->cR p n c m' z:=fun m' z h e T hT=>by
  rw [<-hS.uniq h hT];exact e
 have hl:=hS.1
 refine ⟨fun h=>⟨by constructor<;>decide,ps m _ (fV m) (by rw [mb,if_pos (by omega)])⟩,fun h64 => ?_⟩
 have e0:mb S=HG S:=by rw [mb,if_neg (by omega)]
 refine ⟨fun _ i=>(0<=i/\i<=n/\HG S=HG (S.drop i.toNat),(n-i).toNat),⟨by constructor<;>decide,by constructor<;>decide,by omega,by omega,rfl⟩,fun x2 _ _ i _ _ hF=>⟨fun hi => ?_,fun hi => ?_⟩⟩
 ·obtain ⟨h0,h1,h2⟩:=hF
  obtain ⟨a,b,he,hp,ha,hb,g1,g2,g3⟩:=hS.at_ h0 hi
  rw [Ff he] at h2
  refine ⟨h0,hp,g1,a,ha.1,ha.2,trivial,fun m1 hm1 b0 e1=>⟨fun hb0=>⟨by constructor<;>decide,ps m1 _ hm1 ?_⟩,fun hb0 => ?_⟩⟩
  ·have e1':b0=As.timeB a:=e1
   rw [e0,h2,HG,if_pos (.inl (by rw [<-e1',hb0]))]
  have e1':b0=As.timeB a:=e1
  refine ⟨b,dl hm1 hb.1,hb.2,trivial,fun m2 hm2 b1 e2=>⟨fun hb1=>⟨by constructor<;>decide,ps m2 _ (hm1.trans hm2) ?_⟩,fun hb1=>⟨fun hlt=>⟨by constructor<;>decide,ps m2 _ (hm1.trans hm2) ?_⟩,fun hle => ?_⟩⟩⟩
  ·have e2':b1=As.timeB b:=e2
   rw [e0,h2,HG,if_pos (.inr (by rw [<-e2',hb1]))]
  ·have e2':b1=As.timeB b:=e2
   rw [e0,h2,HG,if_neg (by rw [<-e1',<-e2',hb0,hb1];simp),if_pos hlt]
  ·have e2':b1=As.timeB b:=e2
   refine ⟨by omega,⟨by assumption,by assumption⟩,⟨?_,?_⟩,⟨by omega,by omega,?_⟩,?_⟩
   ·simp only [show IntKind.i64.min = -9223372036854775808 from rfl] at *;omega
   ·simp only [show IntKind.i64.max=9223372036854775807 from rfl] at *;omega
   ·rw [h2,HG,if_neg (by rw [<-e1',<-e2',hb0,hb1];simp),if_neg (by omega),show (i+1).toNat=i.toNat+1 by omega]
   ·simp only;omega
 ·obtain ⟨h0,h1,h2⟩:=hF
  refine ⟨by constructor<;>decide,ps m _ (fV m) ?_⟩
  rw [e0,h2,List.drop_eq_nil_of_le (by omega)];rfl
theorem FY:cI Tryz.prog Iu:=
 cX (aZ [Iw] ⟨Gc,trivial⟩ rfl) (bC _ [⟨(32,4),[],[],[],[]⟩]) 1000 Iu _ rfl rfl (Eq.mp (show Ao=_ by kernel_rfl) FZ)
end
section
def kg (a b c d e f g h i j k l n o p:Int) (m:Mem):Prop:=True
def aa (a b c d e f g h i j k l n o p:Int) (m:Mem) (z:Int):Prop:=z=As.polP ⟨a,b,c,d,e,f,⟨g,h⟩,⟨i,j,k⟩,⟨l,n,o,p⟩⟩
def I7:Sp:={ args:=[.i .i64,.i .i64,.i .i64,.i .i64,.i .i64,.i .i64,.i .i64,.i .i64,.i .i64,.i .i64,.i .i64,.i .i64,.i .i64,.i .i64,.i .i64],grp:=[some 15],res:=[.i .i64],rgrp:=[none],fn:=82,spec:=fun a0 a1 a2 a3 a4 a5 a6 a7 a8 a9 a10 a11 a12 a13 a14=>(kg a0 a1 a2 a3 a4 a5 a6 a7 a8 a9 a10 a11 a12 a13 a14,aa a0 a1 a2 a3 a4 a5 a6 a7 a8 a9 a10 a11 a12 a13 a14) }
def BN:Prop:=∀m:Mem,∀x0:Int,mi<=x0->x0<=ma->∀x1:Int,mi<=x1->x1<=ma->∀x2:Int,mi<=x2->x2<=ma->∀x3:Int,mi<=x3->x3<=ma->∀x4:Int,mi<=x4->x4<=ma->∀x5:Int,mi<=x5->x5<=ma->∀x6:Int,mi<=x6->x6<=ma->∀x7:Int,mi<=x7->x7<=ma->∀x8:Int,mi<=x8->x8<=ma->∀x9:Int,mi<=x9->x9<=ma->∀x10:Int,mi<=x10->x10<=ma->∀x11:Int,mi<=x11->x11<=ma->∀x12:Int,mi<=x12->x12<=ma->∀x13:Int,mi<=x13->x13<=ma->∀x14:Int,mi<=x14->x14<=ma->kg x0 x1 x2 x3 x4 x5 x6 x7 x8 x9 x10 x11 x12 x13 x14 m->
 ((iA x0 1 1000 m)/\∀m1:Mem,ac m m1->∀b0:Bool,du x0 1 1000 m1 b0->
 ((iA x1 0 100 m1)/\∀m2:Mem,ac m1 m2->∀b1:Bool,du x1 0 100 m2 b1->
 ((fy x2 0 68719476736 m2)/\∀m3:Mem,ac m2 m3->∀b2:Bool,bS x2 0 68719476736 m3 b2->
 ((fy x3 0 68719476736 m3)/\∀m4:Mem,ac m3 m4->∀b3:Bool,bS x3 0 68719476736 m4 b3->
 ((b0=false->
 ((i9 x4 x5 m4)/\∀m5:Mem,ac m4 m5->∀x15:Int,mi<=x15->x15<=ma->dq x4 x5 m5 x15->
 ((ik x6 x7 m5)/\∀m6:Mem,ac m5 m6->∀x16:Int,mi<=x16->x16<=ma->bU x6 x7 m6 x16->
 ((i7 x8 x9 x10 m6)/\∀m7:Mem,ac m6 m7->∀x17:Int,mi<=x17->x17<=ma->dp x8 x9 x10 m7 x17->
 ((ja x11 x12 x13 x14 m7)/\∀m8:Mem,ac m7 m8->∀x18:Int,mi<=x18->x18<=ma->cV x11 x12 x13 x14 m8 x18->
 ((x15=10->
 ((K.i64 x15)/\aa x0 x1 x2 x3 x4 x5 x6 x7 x8 x9 x10 x11 x12 x13 x14 m8 x15))/\
 (x15≠10->
 ((x15≠0->
 ((x16=10->
 ((K.i64 x16)/\aa x0 x1 x2 x3 x4 x5 x6 x7 x8 x9 x10 x11 x12 x13 x14 m8 x16))/\
 (x16≠10->
 ((x16≠0->
 ((x17=10->
 ((K.i64 x17)/\aa x0 x1 x2 x3 x4 x5 x6 x7 x8 x9 x10 x11 x12 x13 x14 m8 x17))/\
 (x17≠10->
 ((x17≠0->
 ((x18=10->
 ((K.i64 x18)/\aa x0 x1 x2 x3 x4 x5 x6 x7 x8 x9 x10 x11 x12 x13 x14 m8 x18))/\
 (x18≠10->
 ((x18≠0->
 ((K.i64 16)/\aa x0 x1 x2 x3 x4 x5 x6 x7 x8 x9 x10 x11 x12 x13 x14 m8 16))/\
 (x18=0->
 ((K.i64 16)/\aa x0 x1 x2 x3 x4 x5 x6 x7 x8 x9 x10 x11 x12 x13 x14 m8 16))))))/\
 (x17=0->
 ((x18=10->
 ((K.i64 x18)/\aa x0 x1 x2 x3 x4 x5 x6 x7 x8 x9 x10 x11 x12 x13 x14 m8 x18))/\
 (x18≠10->
 ((x18≠0->
 ((K.i64 16)/\aa x0 x1 x2 x3 x4 x5 x6 x7 x8 x9 x10 x11 x12 x13 x14 m8 16))/\
 (x18=0->
 ((K.i64 16)/\aa x0 x1 x2 x3 x4 x5 x6 x7 x8 x9 x10 x11 x12 x13 x14 m8 16))))))))))/\
 (x16=0->
 ((x17=10->
 ((K.i64 x17)/\aa x0 x1 x2 x3 x4 x5 x6 x7 x8 x9 x10 x11 x12 x13 x14 m8 x17))/\
 (x17≠10->
 ((x17≠0->
 ((x18=10->
 ((K.i64 x18)/\aa x0 x1 x2 x3 x4 x5 x6 x7 x8 x9 x10 x11 x12 x13 x14 m8 x18))/\
 (x18≠10->
 ((x18≠0->
 ((K.i64 16)/\aa x0 x1 x2 x3 x4 x5 x6 x7 x8 x9 x10 x11 x12 x13 x14 m8 16))/\
 (x18=0->
 ((K.i64 16)/\aa x0 x1 x2 x3 x4 x5 x6 x7 x8 x9 x10 x11 x12 x13 x14 m8 16))))))/\
 (x17=0->
 ((x18=10->
 ((K.i64 x18)/\aa x0 x1 x2 x3 x4 x5 x6 x7 x8 x9 x10 x11 x12 x13 x14 m8 x18))/\
 (x18≠10->
 ((x18≠0->
 ((K.i64 16)/\aa x0 x1 x2 x3 x4 x5 x6 x7 x8 x9 x10 x11 x12 x13 x14 m8 16))/\
 (x18=0->
 ((K.i64 16)/\aa x0 x1 x2 x3 x4 x5 x6 x7 x8 x9 x10 x11 x12 x13 x14 m8 16))))))))))))))/\
 (x15=0->
 ((x16=10->
 ((K.i64 x16)/\aa x0 x1 x2 x3 x4 x5 x6 x7 x8 x9 x10 x11 x12 x13 x14 m8 x16))/\
 (x16≠10->
 ((x16≠0->
 ((x17=10->
 ((K.i64 x17)/\aa x0 x1 x2 x3 x4 x5 x6 x7 x8 x9 x10 x11 x12 x13 x14 m8 x17))/\
 (x17≠10->
 ((x17≠0->
 ((x18=10->
 ((K.i64 x18)/\aa x0 x1 x2 x3 x4 x5 x6 x7 x8 x9 x10 x11 x12 x13 x14 m8 x18))/\
 (x18≠10->
 ((x18≠0->
 ((K.i64 16)/\aa x0 x1 x2 x3 x4 x5 x6 x7 x8 x9 x10 x11 x12 x13 x14 m8 16))/\
 (x18=0->
 ((K.i64 16)/\aa x0 x1 x2 x3 x4 x5 x6 x7 x8 x9 x10 x11 x12 x13 x14 m8 16))))))/\
 (x17=0->
 ((x18=10->
 ((K.i64 x18)/\aa x0 x1 x2 x3 x4 x5 x6 x7 x8 x9 x10 x11 x12 x13 x14 m8 x18))/\
 (x18≠10->
 ((x18≠0->
 ((K.i64 16)/\aa x0 x1 x2 x3 x4 x5 x6 x7 x8 x9 x10 x11 x12 x13 x14 m8 16))/\
 (x18=0->
 ((K.i64 16)/\aa x0 x1 x2 x3 x4 x5 x6 x7 x8 x9 x10 x11 x12 x13 x14 m8 16))))))))))/\
 (x16=0->
 ((x17=10->
 ((K.i64 x17)/\aa x0 x1 x2 x3 x4 x5 x6 x7 x8 x9 x10 x11 x12 x13 x14 m8 x17))/\
 (x17≠10->
 ((x17≠0->
 ((x18=10->
 ((K.i64 x18)/\aa x0 x1 x2 x3 x4 x5 x6 x7 x8 x9 x10 x11 x12 x13 x14 m8 x18))/\
 (x18≠10->
 ((x18≠0->
 ((K.i64 16)/\aa x0 x1 x2 x3 x4 x5 x6 x7 x8 x9 x10 x11 x12 x13 x14 m8 16))/\
 (x18=0->
 ((K.i64 16)/\aa x0 x1 x2 x3 x4 x5 x6 x7 x8 x9 x10 x11 x12 x13 x14 m8 16))))))/\
 (x17=0->
 ((x18=10->
 ((K.i64 x18)/\aa x0 x1 x2 x3 x4 x5 x6 x7 x8 x9 x10 x11 x12 x13 x14 m8 x18))/\
 (x18≠10->
 ((x18≠0->
 ((K.i64 16)/\aa x0 x1 x2 x3 x4 x5 x6 x7 x8 x9 x10 x11 x12 x13 x14 m8 16))/\
 (x18=0->
 ((K.i64 16)/\aa x0 x1 x2 x3 x4 x5 x6 x7 x8 x9 x10 x11 x12 x13 x14 m8 16))))))))))))))))))))))/\
 (b0=true->
 ((b1=false->
 ((i9 x4 x5 m4)/\∀m5:Mem,ac m4 m5->∀x15:Int,mi<=x15->x15<=ma->dq x4 x5 m5 x15->
 ((ik x6 x7 m5)/\∀m6:Mem,ac m5 m6->∀x16:Int,mi<=x16->x16<=ma->bU x6 x7 m6 x16->
 ((i7 x8 x9 x10 m6)/\∀m7:Mem,ac m6 m7->∀x17:Int,mi<=x17->x17<=ma->dp x8 x9 x10 m7 x17->
 ((ja x11 x12 x13 x14 m7)/\∀m8:Mem,ac m7 m8->∀x18:Int,mi<=x18->x18<=ma->cV x11 x12 x13 x14 m8 x18->
 ((x15=10->
 ((K.i64 x15)/\aa x0 x1 x2 x3 x4 x5 x6 x7 x8 x9 x10 x11 x12 x13 x14 m8 x15))/\
 (x15≠10->
 ((x15≠0->
 ((x16=10->
 ((K.i64 x16)/\aa x0 x1 x2 x3 x4 x5 x6 x7 x8 x9 x10 x11 x12 x13 x14 m8 x16))/\
 (x16≠10->
 ((x16≠0->
 ((x17=10->
 ((K.i64 x17)/\aa x0 x1 x2 x3 x4 x5 x6 x7 x8 x9 x10 x11 x12 x13 x14 m8 x17))/\
 (x17≠10->
 ((x17≠0->
 ((x18=10->
 ((K.i64 x18)/\aa x0 x1 x2 x3 x4 x5 x6 x7 x8 x9 x10 x11 x12 x13 x14 m8 x18))/\
 (x18≠10->
 ((x18≠0->
 ((K.i64 16)/\aa x0 x1 x2 x3 x4 x5 x6 x7 x8 x9 x10 x11 x12 x13 x14 m8 16))/\
 (x18=0->
 ((K.i64 16)/\aa x0 x1 x2 x3 x4 x5 x6 x7 x8 x9 x10 x11 x12 x13 x14 m8 16))))))/\
 (x17=0->
 ((x18=10->
 ((K.i64 x18)/\aa x0 x1 x2 x3 x4 x5 x6 x7 x8 x9 x10 x11 x12 x13 x14 m8 x18))/\
 (x18≠10->
 ((x18≠0->
 ((K.i64 16)/\aa x0 x1 x2 x3 x4 x5 x6 x7 x8 x9 x10 x11 x12 x13 x14 m8 16))/\
 (x18=0->
 ((K.i64 16)/\aa x0 x1 x2 x3 x4 x5 x6 x7 x8 x9 x10 x11 x12 x13 x14 m8 16))))))))))/\
 (x16=0->
 ((x17=10->
 ((K.i64 x17)/\aa x0 x1 x2 x3 x4 x5 x6 x7 x8 x9 x10 x11 x12 x13 x14 m8 x17))/\
 (x17≠10->
 ((x17≠0->
 ((x18=10->
 ((K.i64 x18)/\aa x0 x1 x2 x3 x4 x5 x6 x7 x8 x9 x10 x11 x12 x13 x14 m8 x18))/\
 (x18≠10->
 ((x18≠0->
 ((K.i64 16)/\aa x0 x1 x2 x3 x4 x5 x6 x7 x8 x9 x10 x11 x12 x13 x14 m8 16))/\
 (x18=0->
 ((K.i64 16)/\aa x0 x1 x2 x3 x4 x5 x6 x7 x8 x9 x10 x11 x12 x13 x14 m8 16))))))/\
 (x17=0->
 ((x18=10->
 ((K.i64 x18)/\aa x0 x1 x2 x3 x4 x5 x6 x7 x8 x9 x10 x11 x12 x13 x14 m8 x18))/\
 (x18≠10->
 ((x18≠0->
 ((K.i64 16)/\aa x0 x1 x2 x3 x4 x5 x6 x7 x8 x9 x10 x11 x12 x13 x14 m8 16))/\
 (x18=0->
 ((K.i64 16)/\aa x0 x1 x2 x3 x4 x5 x6 x7 x8 x9 x10 x11 x12 x13 x14 m8 16))))))))))))))/\
 (x15=0->
 ((x16=10->
 ((K.i64 x16)/\aa x0 x1 x2 x3 x4 x5 x6 x7 x8 x9 x10 x11 x12 x13 x14 m8 x16))/\
 (x16≠10->
 ((x16≠0->
 ((x17=10->
 ((K.i64 x17)/\aa x0 x1 x2 x3 x4 x5 x6 x7 x8 x9 x10 x11 x12 x13 x14 m8 x17))/\
 (x17≠10->
 ((x17≠0->
 ((x18=10->
 ((K.i64 x18)/\aa x0 x1 x2 x3 x4 x5 x6 x7 x8 x9 x10 x11 x12 x13 x14 m8 x18))/\
 (x18≠10->
 ((x18≠0->
 ((K.i64 16)/\aa x0 x1 x2 x3 x4 x5 x6 x7 x8 x9 x10 x11 x12 x13 x14 m8 16))/\
 (x18=0->
 ((K.i64 16)/\aa x0 x1 x2 x3 x4 x5 x6 x7 x8 x9 x10 x11 x12 x13 x14 m8 16))))))/\
 (x17=0->
 ((x18=10->
 ((K.i64 x18)/\aa x0 x1 x2 x3 x4 x5 x6 x7 x8 x9 x10 x11 x12 x13 x14 m8 x18))/\
 (x18≠10->
 ((x18≠0->
 ((K.i64 16)/\aa x0 x1 x2 x3 x4 x5 x6 x7 x8 x9 x10 x11 x12 x13 x14 m8 16))/\
 (x18=0->
 ((K.i64 16)/\aa x0 x1 x2 x3 x4 x5 x6 x7 x8 x9 x10 x11 x12 x13 x14 m8 16))))))))))/\
 (x16=0->
 ((x17=10->
 ((K.i64 x17)/\aa x0 x1 x2 x3 x4 x5 x6 x7 x8 x9 x10 x11 x12 x13 x14 m8 x17))/\
 (x17≠10->
 ((x17≠0->
 ((x18=10->
 ((K.i64 x18)/\aa x0 x1 x2 x3 x4 x5 x6 x7 x8 x9 x10 x11 x12 x13 x14 m8 x18))/\
 (x18≠10->
 ((x18≠0->
 ((K.i64 16)/\aa x0 x1 x2 x3 x4 x5 x6 x7 x8 x9 x10 x11 x12 x13 x14 m8 16))/\
 (x18=0->
 ((K.i64 16)/\aa x0 x1 x2 x3 x4 x5 x6 x7 x8 x9 x10 x11 x12 x13 x14 m8 16))))))/\
 (x17=0->
 ((x18=10->
 ((K.i64 x18)/\aa x0 x1 x2 x3 x4 x5 x6 x7 x8 x9 x10 x11 x12 x13 x14 m8 x18))/\
 (x18≠10->
 ((x18≠0->
 ((K.i64 16)/\aa x0 x1 x2 x3 x4 x5 x6 x7 x8 x9 x10 x11 x12 x13 x14 m8 16))/\
 (x18=0->
 ((K.i64 16)/\aa x0 x1 x2 x3 x4 x5 x6 x7 x8 x9 x10 x11 x12 x13 x14 m8 16))))))))))))))))))))))/\
 (b1=true->
 ((b2=false->
 ((i9 x4 x5 m4)/\∀m5:Mem,ac m4 m5->∀x15:Int,mi<=x15->x15<=ma->dq x4 x5 m5 x15->
 ((ik x6 x7 m5)/\∀m6:Mem,ac m5 m6->∀x16:Int,mi<=x16->x16<=ma->bU x6 x7 m6 x16->
 ((i7 x8 x9 x10 m6)/\∀m7:Mem,ac m6 m7->∀x17:Int,mi<=x17->x17<=ma->dp x8 x9 x10 m7 x17->
 ((ja x11 x12 x13 x14 m7)/\∀m8:Mem,ac m7 m8->∀x18:Int,mi<=x18->x18<=ma->cV x11 x12 x13 x14 m8 x18->
 ((x15=10->
 ((K.i64 x15)/\aa x0 x1 x2 x3 x4 x5 x6 x7 x8 x9 x10 x11 x12 x13 x14 m8 x15))/\
 (x15≠10->
 ((x15≠0->
 ((x16=10->
 ((K.i64 x16)/\aa x0 x1 x2 x3 x4 x5 x6 x7 x8 x9 x10 x11 x12 x13 x14 m8 x16))/\
 (x16≠10->
 ((x16≠0->
 ((x17=10->
 ((K.i64 x17)/\aa x0 x1 x2 x3 x4 x5 x6 x7 x8 x9 x10 x11 x12 x13 x14 m8 x17))/\
 (x17≠10->
 ((x17≠0->
 ((x18=10->
 ((K.i64 x18)/\aa x0 x1 x2 x3 x4 x5 x6 x7 x8 x9 x10 x11 x12 x13 x14 m8 x18))/\
 (x18≠10->
 ((x18≠0->
 ((K.i64 16)/\aa x0 x1 x2 x3 x4 x5 x6 x7 x8 x9 x10 x11 x12 x13 x14 m8 16))/\
 (x18=0->
 ((K.i64 16)/\aa x0 x1 x2 x3 x4 x5 x6 x7 x8 x9 x10 x11 x12 x13 x14 m8 16))))))/\
 (x17=0->
 ((x18=10->
 ((K.i64 x18)/\aa x0 x1 x2 x3 x4 x5 x6 x7 x8 x9 x10 x11 x12 x13 x14 m8 x18))/\
 (x18≠10->
 ((x18≠0->
 ((K.i64 16)/\aa x0 x1 x2 x3 x4 x5 x6 x7 x8 x9 x10 x11 x12 x13 x14 m8 16))/\
 (x18=0->
 ((K.i64 16)/\aa x0 x1 x2 x3 x4 x5 x6 x7 x8 x9 x10 x11 x12 x13 x14 m8 16))))))))))/\
 (x16=0->
 ((x17=10->
 ((K.i64 x17)/\aa x0 x1 x2 x3 x4 x5 x6 x7 x8 x9 x10 x11 x12 x13 x14 m8 x17))/\
 (x17≠10->
 ((x17≠0->
 ((x18=10->
 ((K.i64 x18)/\aa x0 x1 x2 x3 x4 x5 x6 x7 x8 x9 x10 x11 x12 x13 x14 m8 x18))/\
 (x18≠10->
 ((x18≠0->
 ((K.i64 16)/\aa x0 x1 x2 x3 x4 x5 x6 x7 x8 x9 x10 x11 x12 x13 x14 m8 16))/\
 (x18=0->
 ((K.i64 16)/\aa x0 x1 x2 x3 x4 x5 x6 x7 x8 x9 x10 x11 x12 x13 x14 m8 16))))))/\
 (x17=0->
 ((x18=10->
 ((K.i64 x18)/\aa x0 x1 x2 x3 x4 x5 x6 x7 x8 x9 x10 x11 x12 x13 x14 m8 x18))/\
 (x18≠10->
 ((x18≠0->
 ((K.i64 16)/\aa x0 x1 x2 x3 x4 x5 x6 x7 x8 x9 x10 x11 x12 x13 x14 m8 16))/\
 (x18=0->
 ((K.i64 16)/\aa x0 x1 x2 x3 x4 x5 x6 x7 x8 x9 x10 x11 x12 x13 x14 m8 16))))))))))))))/\
 (x15=0->
 ((x16=10->
 ((K.i64 x16)/\aa x0 x1 x2 x3 x4 x5 x6 x7 x8 x9 x10 x11 x12 x13 x14 m8 x16))/\
 (x16≠10->
 ((x16≠0->
 ((x17=10->
 ((K.i64 x17)/\aa x0 x1 x2 x3 x4 x5 x6 x7 x8 x9 x10 x11 x12 x13 x14 m8 x17))/\
 (x17≠10->
 ((x17≠0->
 ((x18=10->
 ((K.i64 x18)/\aa x0 x1 x2 x3 x4 x5 x6 x7 x8 x9 x10 x11 x12 x13 x14 m8 x18))/\
 (x18≠10->
 ((x18≠0->
 ((K.i64 16)/\aa x0 x1 x2 x3 x4 x5 x6 x7 x8 x9 x10 x11 x12 x13 x14 m8 16))/\
 (x18=0->
 ((K.i64 16)/\aa x0 x1 x2 x3 x4 x5 x6 x7 x8 x9 x10 x11 x12 x13 x14 m8 16))))))/\
 (x17=0->
 ((x18=10->
 ((K.i64 x18)/\aa x0 x1 x2 x3 x4 x5 x6 x7 x8 x9 x10 x11 x12 x13 x14 m8 x18))/\
 (x18≠10->
 ((x18≠0->
 ((K.i64 16)/\aa x0 x1 x2 x3 x4 x5 x6 x7 x8 x9 x10 x11 x12 x13 x14 m8 16))/\
 (x18=0->
 ((K.i64 16)/\aa x0 x1 x2 x3 x4 x5 x6 x7 x8 x9 x10 x11 x12 x13 x14 m8 16))))))))))/\
 (x16=0->
 ((x17=10->
 ((K.i64 x17)/\aa x0 x1 x2 x3 x4 x5 x6 x7 x8 x9 x10 x11 x12 x13 x14 m8 x17))/\
 (x17≠10->
 ((x17≠0->
 ((x18=10->
 ((K.i64 x18)/\aa x0 x1 x2 x3 x4 x5 x6 x7 x8 x9 x10 x11 x12 x13 x14 m8 x18))/\
 (x18≠10->
 ((x18≠0->
 ((K.i64 16)/\aa x0 x1 x2 x3 x4 x5 x6 x7 x8 x9 x10 x11 x12 x13 x14 m8 16))/\
 (x18=0->
 ((K.i64 16)/\aa x0 x1 x2 x3 x4 x5 x6 x7 x8 x9 x10 x11 x12 x13 x14 m8 16))))))/\
 (x17=0->
 ((x18=10->
 ((K.i64 x18)/\aa x0 x1 x2 x3 x4 x5 x6 x7 x8 x9 x10 x11 x12 x13 x14 m8 x18))/\
 (x18≠10->
 ((x18≠0->
 ((K.i64 16)/\aa x0 x1 x2 x3 x4 x5 x6 x7 x8 x9 x10 x11 x12 x13 x14 m8 16))/\
 (x18=0->
 ((K.i64 16)/\aa x0 x1 x2 x3 x4 x5 x6 x7 x8 x9 x10 x11 x12 x13 x14 m8 16))))))))))))))))))))))/\
 (b2=true->
 ((b3=false->
 ((i9 x4 x5 m4)/\∀m5:Mem,ac m4 m5->∀x15:Int,mi<=x15->x15<=ma->dq x4 x5 m5 x15->
 ((ik x6 x7 m5)/\∀m6:Mem,ac m5 m6->∀x16:Int,mi<=x16->x16<=ma->bU x6 x7 m6 x16->
 ((i7 x8 x9 x10 m6)/\∀m7:Mem,ac m6 m7->∀x17:Int,mi<=x17->x17<=ma->dp x8 x9 x10 m7 x17->
 ((ja x11 x12 x13 x14 m7)/\∀m8:Mem,ac m7 m8->∀x18:Int,mi<=x18->x18<=ma->cV x11 x12 x13 x14 m8 x18->
 ((x15=10->
 ((K.i64 x15)/\aa x0 x1 x2 x3 x4 x5 x6 x7 x8 x9 x10 x11 x12 x13 x14 m8 x15))/\
 (x15≠10->
 ((x15≠0->
 ((x16=10->
 ((K.i64 x16)/\aa x0 x1 x2 x3 x4 x5 x6 x7 x8 x9 x10 x11 x12 x13 x14 m8 x16))/\
 (x16≠10->
 ((x16≠0->
 ((x17=10->
 ((K.i64 x17)/\aa x0 x1 x2 x3 x4 x5 x6 x7 x8 x9 x10 x11 x12 x13 x14 m8 x17))/\
 (x17≠10->
 ((x17≠0->
 ((x18=10->
 ((K.i64 x18)/\aa x0 x1 x2 x3 x4 x5 x6 x7 x8 x9 x10 x11 x12 x13 x14 m8 x18))/\
 (x18≠10->
 ((x18≠0->
 ((K.i64 16)/\aa x0 x1 x2 x3 x4 x5 x6 x7 x8 x9 x10 x11 x12 x13 x14 m8 16))/\
 (x18=0->
 ((K.i64 16)/\aa x0 x1 x2 x3 x4 x5 x6 x7 x8 x9 x10 x11 x12 x13 x14 m8 16))))))/\
 (x17=0->
 ((x18=10->
 ((K.i64 x18)/\aa x0 x1 x2 x3 x4 x5 x6 x7 x8 x9 x10 x11 x12 x13 x14 m8 x18))/\
 (x18≠10->
 ((x18≠0->
 ((K.i64 16)/\aa x0 x1 x2 x3 x4 x5 x6 x7 x8 x9 x10 x11 x12 x13 x14 m8 16))/\
 (x18=0->
 ((K.i64 16)/\aa x0 x1 x2 x3 x4 x5 x6 x7 x8 x9 x10 x11 x12 x13 x14 m8 16))))))))))/\
 (x16=0->
 ((x17=10->
 ((K.i64 x17)/\aa x0 x1 x2 x3 x4 x5 x6 x7 x8 x9 x10 x11 x12 x13 x14 m8 x17))/\
 (x17≠10->
 ((x17≠0->
 ((x18=10->
 ((K.i64 x18)/\aa x0 x1 x2 x3 x4 x5 x6 x7 x8 x9 x10 x11 x12 x13 x14 m8 x18))/\
 (x18≠10->
 ((x18≠0->
 ((K.i64 16)/\aa x0 x1 x2 x3 x4 x5 x6 x7 x8 x9 x10 x11 x12 x13 x14 m8 16))/\
 (x18=0->
 ((K.i64 16)/\aa x0 x1 x2 x3 x4 x5 x6 x7 x8 x9 x10 x11 x12 x13 x14 m8 16))))))/\
 (x17=0->
 ((x18=10->
 ((K.i64 x18)/\aa x0 x1 x2 x3 x4 x5 x6 x7 x8 x9 x10 x11 x12 x13 x14 m8 x18))/\
 (x18≠10->
 ((x18≠0->
 ((K.i64 16)/\aa x0 x1 x2 x3 x4 x5 x6 x7 x8 x9 x10 x11 x12 x13 x14 m8 16))/\
 (x18=0->
 ((K.i64 16)/\aa x0 x1 x2 x3 x4 x5 x6 x7 x8 x9 x10 x11 x12 x13 x14 m8 16))))))))))))))/\
 (x15=0->
 ((x16=10->
 ((K.i64 x16)/\aa x0 x1 x2 x3 x4 x5 x6 x7 x8 x9 x10 x11 x12 x13 x14 m8 x16))/\
 (x16≠10->
 ((x16≠0->
 ((x17=10->
 ((K.i64 x17)/\aa x0 x1 x2 x3 x4 x5 x6 x7 x8 x9 x10 x11 x12 x13 x14 m8 x17))/\
 (x17≠10->
 ((x17≠0->
 ((x18=10->
 ((K.i64 x18)/\aa x0 x1 x2 x3 x4 x5 x6 x7 x8 x9 x10 x11 x12 x13 x14 m8 x18))/\
 (x18≠10->
 ((x18≠0->
 ((K.i64 16)/\aa x0 x1 x2 x3 x4 x5 x6 x7 x8 x9 x10 x11 x12 x13 x14 m8 16))/\
 (x18=0->
 ((K.i64 16)/\aa x0 x1 x2 x3 x4 x5 x6 x7 x8 x9 x10 x11 x12 x13 x14 m8 16))))))/\
 (x17=0->
 ((x18=10->
 ((K.i64 x18)/\aa x0 x1 x2 x3 x4 x5 x6 x7 x8 x9 x10 x11 x12 x13 x14 m8 x18))/\
 (x18≠10->
 ((x18≠0->
 ((K.i64 16)/\aa x0 x1 x2 x3 x4 x5 x6 x7 x8 x9 x10 x11 x12 x13 x14 m8 16))/\
 (x18=0->
 ((K.i64 16)/\aa x0 x1 x2 x3 x4 x5 x6 x7 x8 x9 x10 x11 x12 x13 x14 m8 16))))))))))/\
 (x16=0->
 ((x17=10->
 ((K.i64 x17)/\aa x0 x1 x2 x3 x4 x5 x6 x7 x8 x9 x10 x11 x12 x13 x14 m8 x17))/\
 (x17≠10->
 ((x17≠0->
 ((x18=10->
 ((K.i64 x18)/\aa x0 x1 x2 x3 x4 x5 x6 x7 x8 x9 x10 x11 x12 x13 x14 m8 x18))/\
 (x18≠10->
 ((x18≠0->
 ((K.i64 16)/\aa x0 x1 x2 x3 x4 x5 x6 x7 x8 x9 x10 x11 x12 x13 x14 m8 16))/\
 (x18=0->
 ((K.i64 16)/\aa x0 x1 x2 x3 x4 x5 x6 x7 x8 x9 x10 x11 x12 x13 x14 m8 16))))))/\
 (x17=0->
 ((x18=10->
 ((K.i64 x18)/\aa x0 x1 x2 x3 x4 x5 x6 x7 x8 x9 x10 x11 x12 x13 x14 m8 x18))/\
 (x18≠10->
 ((x18≠0->
 ((K.i64 16)/\aa x0 x1 x2 x3 x4 x5 x6 x7 x8 x9 x10 x11 x12 x13 x14 m8 16))/\
 (x18=0->
 ((K.i64 16)/\aa x0 x1 x2 x3 x4 x5 x6 x7 x8 x9 x10 x11 x12 x13 x14 m8 16))))))))))))))))))))))/\
 (b3=true->
 ((i9 x4 x5 m4)/\∀m5:Mem,ac m4 m5->∀x15:Int,mi<=x15->x15<=ma->dq x4 x5 m5 x15->
 ((ik x6 x7 m5)/\∀m6:Mem,ac m5 m6->∀x16:Int,mi<=x16->x16<=ma->bU x6 x7 m6 x16->
 ((i7 x8 x9 x10 m6)/\∀m7:Mem,ac m6 m7->∀x17:Int,mi<=x17->x17<=ma->dp x8 x9 x10 m7 x17->
 ((ja x11 x12 x13 x14 m7)/\∀m8:Mem,ac m7 m8->∀x18:Int,mi<=x18->x18<=ma->cV x11 x12 x13 x14 m8 x18->
 ((x15=10->
 ((K.i64 x15)/\aa x0 x1 x2 x3 x4 x5 x6 x7 x8 x9 x10 x11 x12 x13 x14 m8 x15))/\
 (x15≠10->
 ((x15≠0->
 ((x16=10->
 ((K.i64 x16)/\aa x0 x1 x2 x3 x4 x5 x6 x7 x8 x9 x10 x11 x12 x13 x14 m8 x16))/\
 (x16≠10->
 ((x16≠0->
 ((x17=10->
 ((K.i64 x17)/\aa x0 x1 x2 x3 x4 x5 x6 x7 x8 x9 x10 x11 x12 x13 x14 m8 x17))/\
 (x17≠10->
 ((x17≠0->
 ((x18=10->
 ((K.i64 x18)/\aa x0 x1 x2 x3 x4 x5 x6 x7 x8 x9 x10 x11 x12 x13 x14 m8 x18))/\
 (x18≠10->
 ((x18≠0->
 ((K.i64 16)/\aa x0 x1 x2 x3 x4 x5 x6 x7 x8 x9 x10 x11 x12 x13 x14 m8 16))/\
 (x18=0->
 ((K.i64 16)/\aa x0 x1 x2 x3 x4 x5 x6 x7 x8 x9 x10 x11 x12 x13 x14 m8 16))))))/\
 (x17=0->
 ((x18=10->
 ((K.i64 x18)/\aa x0 x1 x2 x3 x4 x5 x6 x7 x8 x9 x10 x11 x12 x13 x14 m8 x18))/\
 (x18≠10->
 ((x18≠0->
 ((K.i64 16)/\aa x0 x1 x2 x3 x4 x5 x6 x7 x8 x9 x10 x11 x12 x13 x14 m8 16))/\
 (x18=0->
 ((K.i64 16)/\aa x0 x1 x2 x3 x4 x5 x6 x7 x8 x9 x10 x11 x12 x13 x14 m8 16))))))))))/\
 (x16=0->
 ((x17=10->
 ((K.i64 x17)/\aa x0 x1 x2 x3 x4 x5 x6 x7 x8 x9 x10 x11 x12 x13 x14 m8 x17))/\
 (x17≠10->
 ((x17≠0->
 ((x18=10->
 ((K.i64 x18)/\aa x0 x1 x2 x3 x4 x5 x6 x7 x8 x9 x10 x11 x12 x13 x14 m8 x18))/\
 (x18≠10->
 ((x18≠0->
 ((K.i64 16)/\aa x0 x1 x2 x3 x4 x5 x6 x7 x8 x9 x10 x11 x12 x13 x14 m8 16))/\
 (x18=0->
 ((K.i64 16)/\aa x0 x1 x2 x3 x4 x5 x6 x7 x8 x9 x10 x11 x12 x13 x14 m8 16))))))/\
 (x17=0->
 ((x18=10->
 ((K.i64 x18)/\aa x0 x1 x2 x3 x4 x5 x6 x7 x8 x9 x10 x11 x12 x13 x14 m8 x18))/\
 (x18≠10->
 ((x18≠0->
 ((K.i64 16)/\aa x0 x1 x2 x3 x4 x5 x6 x7 x8 x9 x10 x11 x12 x13 x14 m8 16))/\
 (x18=0->
 ((K.i64 16)/\aa x0 x1 x2 x3 x4 x5 x6 x7 x8 x9 x10 x11 x12 x13 x14 m8 16))))))))))))))/\
 (x15=0->
 ((x16=10->
 ((K.i64 x16)/\aa x0 x1 x2 x3 x4 x5 x6 x7 x8 x9 x10 x11 x12 x13 x14 m8 x16))/\
 (x16≠10->
 ((x16≠0->
 ((x17=10->
 ((K.i64 x17)/\aa x0 x1 x2 x3 x4 x5 x6 x7 x8 x9 x10 x11 x12 x13 x14 m8 x17))/\
 (x17≠10->
 ((x17≠0->
 ((x18=10->
 ((K.i64 x18)/\aa x0 x1 x2 x3 x4 x5 x6 x7 x8 x9 x10 x11 x12 x13 x14 m8 x18))/\
 (x18≠10->
 ((x18≠0->
 ((K.i64 16)/\aa x0 x1 x2 x3 x4 x5 x6 x7 x8 x9 x10 x11 x12 x13 x14 m8 16))/\
 (x18=0->
 ((K.i64 16)/\aa x0 x1 x2 x3 x4 x5 x6 x7 x8 x9 x10 x11 x12 x13 x14 m8 16))))))/\
 (x17=0->
 ((x18=10->
 ((K.i64 x18)/\aa x0 x1 x2 x3 x4 x5 x6 x7 x8 x9 x10 x11 x12 x13 x14 m8 x18))/\
 (x18≠10->
 ((x18≠0->
 ((K.i64 16)/\aa x0 x1 x2 x3 x4 x5 x6 x7 x8 x9 x10 x11 x12 x13 x14 m8 16))/\
 (x18=0->
 ((K.i64 16)/\aa x0 x1 x2 x3 x4 x5 x6 x7 x8 x9 x10 x11 x12 x13 x14 m8 16))))))))))/\
 (x16=0->
 ((x17=10->
 ((K.i64 x17)/\aa x0 x1 x2 x3 x4 x5 x6 x7 x8 x9 x10 x11 x12 x13 x14 m8 x17))/\
 (x17≠10->
 ((x17≠0->
 ((x18=10->
 ((K.i64 x18)/\aa x0 x1 x2 x3 x4 x5 x6 x7 x8 x9 x10 x11 x12 x13 x14 m8 x18))/\
 (x18≠10->
 ((x18≠0->
 ((K.i64 16)/\aa x0 x1 x2 x3 x4 x5 x6 x7 x8 x9 x10 x11 x12 x13 x14 m8 16))/\
 (x18=0->
 ((K.i64 16)/\aa x0 x1 x2 x3 x4 x5 x6 x7 x8 x9 x10 x11 x12 x13 x14 m8 16))))))/\
 (x17=0->
 ((x18=10->
 ((K.i64 x18)/\aa x0 x1 x2 x3 x4 x5 x6 x7 x8 x9 x10 x11 x12 x13 x14 m8 x18))/\
 (x18≠10->
 ((x18≠0->
 ((K.i64 16)/\aa x0 x1 x2 x3 x4 x5 x6 x7 x8 x9 x10 x11 x12 x13 x14 m8 16))/\
 (x18=0->
 ((K.i64 0)/\aa x0 x1 x2 x3 x4 x5 x6 x7 x8 x9 x10 x11 x12 x13 x14 m8 0)))))))))))))))))))))))))))))))))
theorem Ho:BN:=by
 intro m x0 _ _ x1 _ _ x2 _ _ x3 _ _ x4 _ _ x5 _ _ x6 _ _ x7 _ _ x8 _ _ x9 _ _ x10 _ _ x11 _ _ x12 _ _ x13 _ _ x14 _ _ _
 repeat' first | (refine And.intro ?_ ?_) | intro _
 all_goals first
  | trivial
  | (constructor<;>decide)
  | (constructor<;>assumption)
  | (simp only [du,bS,dq,bU,dp,cV] at *;subst_vars;simp_all [aa,As.polP,As.firstE,As.ruleE,As.inB,As.spanM];done)
theorem Hn:cI Tryz.prog I7:=
 cX (aZ [CC,Jp,Hj,I5,I8,I6] ⟨rn,⟨vP,⟨BL,⟨Hh,⟨Hp,⟨Hl,trivial⟩⟩⟩⟩⟩⟩ rfl) (bC _ []) 1000 I7 _ rfl rfl (Eq.mp (show BN=_ by kernel_rfl) Ho)
end
end Go.Proofs.YtjabmipkllkfbaaGreatDoor.Vc
