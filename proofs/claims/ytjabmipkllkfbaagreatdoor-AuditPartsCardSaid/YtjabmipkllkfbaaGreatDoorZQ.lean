/-
  Contracts, by their trees; Runs under way and open breakers, as the program counts them and as the document does: plain; Contracts, by their trees; Contracts, by their trees; Contracts, by their trees.
-/
import Derived.Test.YtjabmipkllkfbaaGreatDoorZN
import Derived.Test.YtjabmipkllkfbaaGreatDoorZM
import Derived.Test.YtjabmipkllkfbaaGreatDoorZF
set_option linter.unusedVariables false
set_option linter.unusedSimpArgs false
set_option maxHeartbeats 4000000
namespace Go.Proofs.YtjabmipkllkfbaaGreatDoor.Vc
section
open As
def dz (t u:Int) (L:List cr) (p:List Ev) (x:Ev):Bool:=
 decide (x.kind=1)&&(As.early t u (uQ lj p) x.at_||match L[x.job.toNat]? with | some J=>As.early J.pol.lim.t J.pol.lim.tau (uQ (jq x.job) p) x.at_ | none=>false)
def lA (r:List Value) (L:List cr) (p:List Ev):Prop:=r.length=3*L.length/\∀(j:Nat) (J:cr),L[j]? = some J->r[3*j]? = some (.int .i64 J.pol.lim.t)/\r[3*j+1]? = some (.int .i64 J.pol.lim.tau)/\r[3*j+2]? = some (.int .i64 (eD J.pol.lim.t (uQ (jq j) p)))
theorem lA.skip {r:List Value} {L:List cr} {p:List Ev} {x:Ev} (h:lA r L p) (hk:x.kind≠1):lA r L (p++[x]):=by
 refine ⟨h.1,fun j J hJ => ?_⟩
 rw [lR,if_neg (fun g=>hk g.1),List.append_nil]
 exact h.2 j J hJ
theorem lA.step {r:List Value} {L:List cr} {p:List Ev} {x:Ev} {j:Nat} {J:cr} {v:Int} (h:lA r L p) (hk:x.kind=1) (hj:x.job=(j:Int)) (hJ:L[j]? = some J) (hv:v=max (eD J.pol.lim.t (uQ (jq j) p)) x.at_+J.pol.lim.t):lA (aE r (3*j+2) [.int .i64 v]) L (p++[x]):=by
 have hjl:=(List.getElem?_eq_some_iff.1 hJ).1
 have hl:=h.1
 refine ⟨by rw [fc];exact hl,fun k T hT => ?_⟩
 obtain ⟨g1,g2,g3⟩:=h.2 k T hT
 have hkl:=(List.getElem?_eq_some_iff.1 hT).1
 have hlen:3*j+2+[Value.int IntKind.i64 v].length<=r.length:=by simp only [List.length_cons,List.length_nil];omega
 rw [ii _ _ _ _ hlen,ii _ _ _ _ hlen,ii _ _ _ _ hlen]
 simp only [List.length_cons,List.length_nil]
 rw [if_neg (by omega),if_neg (by omega)]
 refine ⟨g1,g2,?_⟩
 by_cases e:k=j
 ·subst e
  rw [hJ] at hT;cases hT
  rw [if_pos (by omega),lR,if_pos ⟨hk,by simp [jq,hj]⟩,qe,<-hv]
  simp
 ·rw [if_neg (by omega),lR,if_neg (fun g=>by have:=g.2;simp only [jq,decide_eq_true_eq] at this;omega),List.append_nil]
  exact g3
theorem uV {T:Int} {q:Ev->Bool} {p:List Ev} (hT:0<=T/\T<=68719476736) (hp:p.length<=1000000) (hv:∀x∈p,x.at_<=253402300799):0<=eD T (uQ q p)/\eD T (uQ q p)<=69000000000000000:=by
 obtain ⟨h1,h2⟩:=vV (T:=T) (M:=253402300799) hT.1 (by omega) (uQ q p) (fun v hv'=>by
  obtain ⟨x,hx,_,e⟩:=GU hv'
  have:=hv x hx
  omega)
 have h3:=GT q p
 have h4:((uQ q p).length:Int)*T<=1000000*68719476736:=Int.mul_le_mul (by omega) hT.2 hT.1 (by omega)
 omega
def yY (t u:Int) (L:List cr) (l:List Ev) (q:Option Addr) (n:Nat) (y v:Int) (r2 r3:List Value):Prop:=
 ∃i:Nat,y=i/\i<=l.length/\v=eD t (uQ lj (l.take i))/\r2=aV 3 (bZ (marks (dz t u L) l i) 0)/\n=(bZ (marks (dz t u L) l i) 0).length/\(q=none->r2=[])/\lA r3 L (l.take i)
theorem HA {t u:Int} {L:List cr} {l:List Ev} {n n1 i:Nat} {v:Int} {r2 r4:List Value} {x:Ev} (hx:l[i]? = some x) (hl:l.length<=1000000) (hn1:l.length=n1) (hr:r2=aV 3 (bZ (marks (dz t u L) l i) 0)) (hn:n=(bZ (marks (dz t u L) l i) 0).length)
  (hf:dz t u L (l.take i) x=true) (hv:v=eD t (uQ lj (l.take (i+1)))) (hvk:K.i64 v) (ho:lA r4 L (l.take (i+1))) :
  (2 * ((n : Int) + 1) * 16 <= 281474976710656) /\ ∀ (p4 : Addr) (c4 : Nat) (r5 : List Value), r5 = r2 ++ [.int .i64 3, .int .i64 (i : Int)] -> (n : Int) + 1 <= (c4 : Int) -> c4 <= 9223372036854775807 -> (((i : Int) + 1) <= 9223372036854775807 /\ (((Int.toNat ((n : Int) + 1)) <= 9223372036854775807 /\ c4 <= 9223372036854775807) /\ (IntKind.i64.min <= ((i : Int) + 1) /\ ((i : Int) + 1) <= IntKind.i64.max) /\ (K.i64 v) /\
   (yY t u L l ((some p4).map fun p=>p.add 0) (Int.toNat ((n:Int)+1)) ((i:Int)+1) v r5 r4/\((n1:Int)-((i:Int)+1)).toNat<((n1:Int)-(i:Int)).toNat))):=by
 have hi:=(List.getElem?_eq_some_iff.1 hx).1
 have hm:=bv (dz t u L) l i
 have e:=mH (f:=dz t u L) hx hf
 refine ⟨by omega,fun p4 c4 r5 hr5 h1 h2=>⟨by omega,⟨by omega,h2⟩,dy (by omega) (by omega),hvk,⟨i+1,by omega,by omega,hv,?_,?_,(fun h=>by cases h),ho⟩,by omega⟩⟩
 ·rw [hr5,e,mw,hr]
 ·rw [e,List.length_append,<-hn];simp
theorem xE {t u:Int} {L:List cr} {l:List Ev} {n c n1 i:Nat} {q:Option Addr} {v:Int} {r2 r4:List Value} {x:Ev} (hx:l[i]? = some x) (hl:l.length<=1000000) (hn1:l.length=n1) (hr:r2=aV 3 (bZ (marks (dz t u L) l i) 0)) (hn:n=(bZ (marks (dz t u L) l i) 0).length) (hq:q=none->r2=[])
  (hf:dz t u L (l.take i) x=false) (hv:v=eD t (uQ lj (l.take (i+1)))) (hvk:K.i64 v) (ho:lA r4 L (l.take (i+1))) (hnc:n<=9223372036854775807/\c<=9223372036854775807) :
  (((i : Int) + 1) <= 9223372036854775807 /\ ((n <= 9223372036854775807 /\ c <= 9223372036854775807) /\ (IntKind.i64.min <= ((i : Int) + 1) /\ ((i : Int) + 1) <= IntKind.i64.max) /\ (K.i64 v) /\
   (yY t u L l (q.map fun p=>p.add 0) n ((i:Int)+1) v r2 r4/\((n1:Int)-((i:Int)+1)).toNat<((n1:Int)-(i:Int)).toNat))):=by
 have hi:=(List.getElem?_eq_some_iff.1 hx).1
 have e:=kR (f:=dz t u L) hx hf
 rw [ai]
 exact ⟨by omega,hnc,dy (by omega) (by omega),hvk,⟨i+1,by omega,by omega,hv,by rw [e];exact hr,by rw [e];exact hn,hq,ho⟩,by omega⟩
def oe (a b c d s t u:Int) (p:Option Addr) (n cc:Nat) (p1:Option Addr) (n1 c1:Nat) (m:Mem):Prop:=(dJ m ln/\n1<=1000000)/\∃L l,cM m p n L/\dx m p1 n1 l
def gD (a b c d s t u:Int) (p:Option Addr) (n cc:Nat) (p1:Option Addr) (n1 c1:Nat) (m:Mem) (q:Option Addr) (n2 c2:Nat) (z:Int):Prop:=∀L l,cM m p n L->dx m p1 n1 l->z=ol a b c d t u L l/\eg m q (aV 3 (hZ a b c d t u L l (dz t u L)))/\n2=(hZ a b c d t u L l (dz t u L)).length
def Cf:Sp:={ args:=[.i .i64,.i .i64,.i .i64,.i .i64,.i .u64,.i .i64,.i .i64,.sl,.sl],grp:=[some 8,none],res:=[.sl,.i .i64],rgrp:=[none,none],fn:=16,spec:=fun a0 a1 a2 a3 a4 a5 a6 a7 a8 a9 a10 a11 a12=>(oe a0 a1 a2 a3 a4 a5 a6 a7 a8 a9 a10 a11 a12,gD a0 a1 a2 a3 a4 a5 a6 a7 a8 a9 a10 a11 a12) }
def Ai:Prop:=∀m:Mem,∀x0:Int,mi<=x0->x0<=ma->∀x1:Int,mi<=x1->x1<=ma->∀x2:Int,mi<=x2->x2<=ma->∀x3:Int,mi<=x3->x3<=ma->∀x4:Int,IntKind.u64.min<=x4->x4<=IntKind.u64.max->∀x5:Int,mi<=x5->x5<=ma->∀x6:Int,mi<=x6->x6<=ma->∀(p0:Option Addr) (n0 c0:Nat),n0<=9223372036854775807->c0<=9223372036854775807->∀(p1:Option Addr) (n1 c1:Nat),n1<=9223372036854775807->c1<=9223372036854775807->oe x0 x1 x2 x3 x4 x5 x6 p0 n0 c0 p1 n1 c1 m->
 ((n0<=9223372036854775807/\c0<=9223372036854775807)/\fw x0 x1 x2 x3 x4 x5 x6 (p0.map fun p=>p.add 0) n0 c0 m/\∀m1:Mem,ac m m1->∀x11:Int,mi<=x11->x11<=ma->aH x0 x1 x2 x3 x4 x5 x6 (p0.map fun p=>p.add 0) n0 c0 m1 x11->
 ((x11≠0->
 ((K.i64 x11)/\gD x0 x1 x2 x3 x4 x5 x6 p0 n0 c0 p1 n1 c1 m1 none 0 0 x11))/\
 (x11=0->
 ((n1<=9223372036854775807/\c1<=9223372036854775807)/\gv (p1.map fun p=>p.add 0) n1 c1 (n0:Int) m1/\∀m2:Mem,ac m1 m2->∀x12:Int,mi<=x12->x12<=ma->∀x13:Int,mi<=x13->x13<=ma->aI (p1.map fun p=>p.add 0) n1 c1 (n0:Int) m2 x12 x13->
 ((x13≠0->
 ((K.i64 x13)/\gD x0 x1 x2 x3 x4 x5 x6 p0 n0 c0 p1 n1 c1 m2 none 0 0 x13))/\
 (x13=0->
 ((0<=(n0:Int)/\(n0:Int)<=1000000)/\∀(p2:Addr) (r0:List Value),r0=cP ((n0:Int)).toNat [(vI 0),(vI 0),(vI 0)]->(∃F3:Int->List Value->Prop×Nat,((K.i64 0)/\(F3 0 r0).1)/\
 ∀x14:Int,mi<=x14->x14<=ma->∀r1:List Value,(F3 x14 r1).1->
 ((x14<(n0:Int)->
 (0<=x14/\(p0≠none/\(cw m2 p0 (0+(x14*30)) 30/\(0<=x14/\((some p2)≠none/\(∃x15:Int,ae m2 p0 ((0+(x14*30))+21)=some (vI x15)/\(K.i64 x15)/\(∃x16:Int,ae m2 p0 ((0+(x14*30))+22)=some (vI x16)/\(K.i64 x16)/\((0<=(0+(x14*3))/\(0+(x14*3))+2<=(r1.length:Int))/\∀r2:List Value,r2=aE r1 ((0+(x14*3))).toNat [(vI x15),(vI x16)]->((x14+1)<=9223372036854775807/\((mi<=(x14+1)/\(x14+1)<=ma)/\((F3 (x14+1) r2).1/\(F3 (x14+1) r2).2<(F3 x14 r1).2))))))))))))/\
 ((n0:Int)<=x14->
 (∃F4:Option Addr->Nat->Nat->Int->Int->List Value->List Value->Prop×Nat,((K.i64 0)/\(K.i64 0)/\(F4 none 0 0 0 0 [] r1).1)/\
 ∀(p3:Option Addr) (n3 c3:Nat),n3<=9223372036854775807->c3<=9223372036854775807->∀x17:Int,mi<=x17->x17<=ma->∀x18:Int,mi<=x18->x18<=ma->∀r2:List Value,∀r3:List Value,(F4 p3 n3 c3 x17 x18 r2 r3).1->
 ((x17<(n1:Int)->
 (0<=x17/\(p1≠none/\(cw m2 p1 (0+(x17*8)) 8/\(∃x19:Int,ae m2 p1 (0+(x17*8))=some (vI x19)/\(K.i64 x19)/\((x19≠1->
 ((x17+1)<=9223372036854775807/\((n3<=9223372036854775807/\c3<=9223372036854775807)/\(mi<=(x17+1)/\(x17+1)<=ma)/\(K.i64 x18)/\((F4 (p3.map fun p=>p.add 0) n3 c3 (x17+1) x18 r2 r3).1/\(F4 (p3.map fun p=>p.add 0) n3 c3 (x17+1) x18 r2 r3).2<(F4 p3 n3 c3 x17 x18 r2 r3).2))))/\
 (x19=1->
 (∃x20:Int,ae m2 p1 ((0+(x17*8))+1)=some (vI x20)/\(K.i64 x20)/\((0<x5->
 ((-9223372036854775808:Int)<=(x18-x6)/\((x18-x6)<=9223372036854775807/\(∀x21:Int,x21=(bif true then max x18 x20 else min x18 x20)->(K.i64 x21)/\((x21+x5)<=9223372036854775807/\(∃x22:Int,ae m2 p1 ((0+(x17*8))+2)=some (vI x22)/\(K.i64 x22)/\(0<=x22/\(x22<(n0:Int)/\((some p2)≠none/\((0<=(0+(x22*3))/\(0+(x22*3))+1<=(r3.length:Int))/\(∃x23:Int,br r3 (0+(x22*3))=some (vI x23)/\(K.i64 x23)/\((0<x23->
 ((0<=((0+(x22*3))+2)/\((0+(x22*3))+2)+1<=(r3.length:Int))/\(∃x24:Int,br r3 ((0+(x22*3))+2)=some (vI x24)/\(K.i64 x24)/\((0<=((0+(x22*3))+1)/\((0+(x22*3))+1)+1<=(r3.length:Int))/\(∃x25:Int,br r3 ((0+(x22*3))+1)=some (vI x25)/\(K.i64 x25)/\((-9223372036854775808:Int)<=(x24-x25)/\((x24-x25)<=9223372036854775807/\((0<=((0+(x22*3))+2)/\((0+(x22*3))+2)+1<=(r3.length:Int))/\(∀x26:Int,x26=(bif true then max x24 x20 else min x24 x20)->(K.i64 x26)/\((0<=(0+(x22*3))/\(0+(x22*3))+1<=(r3.length:Int))/\((x26+x23)<=9223372036854775807/\((0<=((0+(x22*3))+2)/\((0+(x22*3))+2)+1<=(r3.length:Int))/\∀r4:List Value,r4=aE r3 (((0+(x22*3))+2)).toNat [(vI (x26+x23))]->((x20<(x18-x6)->
 ((2*((n3:Int)+1)*16<=281474976710656)/\∀(p4:Addr) (c4:Nat) (r5:List Value),r5=r2++[(vI 3),(vI x17)]->(n3:Int)+1<=(c4:Int)->c4<=9223372036854775807->((x17+1)<=9223372036854775807/\(((Int.toNat ((n3:Int)+1))<=9223372036854775807/\c4<=9223372036854775807)/\(mi<=(x17+1)/\(x17+1)<=ma)/\(K.i64 (x21+x5))/\((F4 ((some p4).map fun p=>p.add 0) (Int.toNat ((n3:Int)+1)) c4 (x17+1) (x21+x5) r5 r4).1/\(F4 ((some p4).map fun p=>p.add 0) (Int.toNat ((n3:Int)+1)) c4 (x17+1) (x21+x5) r5 r4).2<(F4 p3 n3 c3 x17 x18 r2 r3).2)))))/\
 ((x18-x6)<=x20->
 ((x20<(x24-x25)->
 ((2*((n3:Int)+1)*16<=281474976710656)/\∀(p4:Addr) (c4:Nat) (r5:List Value),r5=r2++[(vI 3),(vI x17)]->(n3:Int)+1<=(c4:Int)->c4<=9223372036854775807->((x17+1)<=9223372036854775807/\(((Int.toNat ((n3:Int)+1))<=9223372036854775807/\c4<=9223372036854775807)/\(mi<=(x17+1)/\(x17+1)<=ma)/\(K.i64 (x21+x5))/\((F4 ((some p4).map fun p=>p.add 0) (Int.toNat ((n3:Int)+1)) c4 (x17+1) (x21+x5) r5 r4).1/\(F4 ((some p4).map fun p=>p.add 0) (Int.toNat ((n3:Int)+1)) c4 (x17+1) (x21+x5) r5 r4).2<(F4 p3 n3 c3 x17 x18 r2 r3).2)))))/\
 ((x24-x25)<=x20->
 ((x17+1)<=9223372036854775807/\((n3<=9223372036854775807/\c3<=9223372036854775807)/\(mi<=(x17+1)/\(x17+1)<=ma)/\(K.i64 (x21+x5))/\((F4 (p3.map fun p=>p.add 0) n3 c3 (x17+1) (x21+x5) r2 r4).1/\(F4 (p3.map fun p=>p.add 0) n3 c3 (x17+1) (x21+x5) r2 r4).2<(F4 p3 n3 c3 x17 x18 r2 r3).2)))))))))))))))))))/\
 (x23<=0->
 ((0<=((0+(x22*3))+2)/\((0+(x22*3))+2)+1<=(r3.length:Int))/\(∃x24:Int,br r3 ((0+(x22*3))+2)=some (vI x24)/\(K.i64 x24)/\(∀x25:Int,x25=(bif true then max x24 x20 else min x24 x20)->(K.i64 x25)/\((0<=(0+(x22*3))/\(0+(x22*3))+1<=(r3.length:Int))/\((-9223372036854775808:Int)<=(x25+x23)/\((0<=((0+(x22*3))+2)/\((0+(x22*3))+2)+1<=(r3.length:Int))/\∀r4:List Value,r4=aE r3 (((0+(x22*3))+2)).toNat [(vI (x25+x23))]->((x20<(x18-x6)->
 ((2*((n3:Int)+1)*16<=281474976710656)/\∀(p4:Addr) (c4:Nat) (r5:List Value),r5=r2++[(vI 3),(vI x17)]->(n3:Int)+1<=(c4:Int)->c4<=9223372036854775807->((x17+1)<=9223372036854775807/\(((Int.toNat ((n3:Int)+1))<=9223372036854775807/\c4<=9223372036854775807)/\(mi<=(x17+1)/\(x17+1)<=ma)/\(K.i64 (x21+x5))/\((F4 ((some p4).map fun p=>p.add 0) (Int.toNat ((n3:Int)+1)) c4 (x17+1) (x21+x5) r5 r4).1/\(F4 ((some p4).map fun p=>p.add 0) (Int.toNat ((n3:Int)+1)) c4 (x17+1) (x21+x5) r5 r4).2<(F4 p3 n3 c3 x17 x18 r2 r3).2)))))/\
 ((x18-x6)<=x20->
 ((x17+1)<=9223372036854775807/\((n3<=9223372036854775807/\c3<=9223372036854775807)/\(mi<=(x17+1)/\(x17+1)<=ma)/\(K.i64 (x21+x5))/\((F4 (p3.map fun p=>p.add 0) n3 c3 (x17+1) (x21+x5) r2 r4).1/\(F4 (p3.map fun p=>p.add 0) n3 c3 (x17+1) (x21+x5) r2 r4).2<(F4 p3 n3 c3 x17 x18 r2 r3).2))))))))))))))))))))))))/\
 (x5<=0->
 (∀x21:Int,x21=(bif true then max x18 x20 else min x18 x20)->(K.i64 x21)/\((-9223372036854775808:Int)<=(x21+x5)/\(∃x22:Int,ae m2 p1 ((0+(x17*8))+2)=some (vI x22)/\(K.i64 x22)/\(0<=x22/\(x22<(n0:Int)/\((some p2)≠none/\((0<=(0+(x22*3))/\(0+(x22*3))+1<=(r3.length:Int))/\(∃x23:Int,br r3 (0+(x22*3))=some (vI x23)/\(K.i64 x23)/\((0<x23->
 ((0<=((0+(x22*3))+2)/\((0+(x22*3))+2)+1<=(r3.length:Int))/\(∃x24:Int,br r3 ((0+(x22*3))+2)=some (vI x24)/\(K.i64 x24)/\((0<=((0+(x22*3))+1)/\((0+(x22*3))+1)+1<=(r3.length:Int))/\(∃x25:Int,br r3 ((0+(x22*3))+1)=some (vI x25)/\(K.i64 x25)/\((-9223372036854775808:Int)<=(x24-x25)/\((x24-x25)<=9223372036854775807/\((0<=((0+(x22*3))+2)/\((0+(x22*3))+2)+1<=(r3.length:Int))/\(∀x26:Int,x26=(bif true then max x24 x20 else min x24 x20)->(K.i64 x26)/\((0<=(0+(x22*3))/\(0+(x22*3))+1<=(r3.length:Int))/\((x26+x23)<=9223372036854775807/\((0<=((0+(x22*3))+2)/\((0+(x22*3))+2)+1<=(r3.length:Int))/\∀r4:List Value,r4=aE r3 (((0+(x22*3))+2)).toNat [(vI (x26+x23))]->((x20<(x24-x25)->
 ((2*((n3:Int)+1)*16<=281474976710656)/\∀(p4:Addr) (c4:Nat) (r5:List Value),r5=r2++[(vI 3),(vI x17)]->(n3:Int)+1<=(c4:Int)->c4<=9223372036854775807->((x17+1)<=9223372036854775807/\(((Int.toNat ((n3:Int)+1))<=9223372036854775807/\c4<=9223372036854775807)/\(mi<=(x17+1)/\(x17+1)<=ma)/\(K.i64 (x21+x5))/\((F4 ((some p4).map fun p=>p.add 0) (Int.toNat ((n3:Int)+1)) c4 (x17+1) (x21+x5) r5 r4).1/\(F4 ((some p4).map fun p=>p.add 0) (Int.toNat ((n3:Int)+1)) c4 (x17+1) (x21+x5) r5 r4).2<(F4 p3 n3 c3 x17 x18 r2 r3).2)))))/\
 ((x24-x25)<=x20->
 ((x17+1)<=9223372036854775807/\((n3<=9223372036854775807/\c3<=9223372036854775807)/\(mi<=(x17+1)/\(x17+1)<=ma)/\(K.i64 (x21+x5))/\((F4 (p3.map fun p=>p.add 0) n3 c3 (x17+1) (x21+x5) r2 r4).1/\(F4 (p3.map fun p=>p.add 0) n3 c3 (x17+1) (x21+x5) r2 r4).2<(F4 p3 n3 c3 x17 x18 r2 r3).2)))))))))))))))))/\
 (x23<=0->
 ((0<=((0+(x22*3))+2)/\((0+(x22*3))+2)+1<=(r3.length:Int))/\(∃x24:Int,br r3 ((0+(x22*3))+2)=some (vI x24)/\(K.i64 x24)/\(∀x25:Int,x25=(bif true then max x24 x20 else min x24 x20)->(K.i64 x25)/\((0<=(0+(x22*3))/\(0+(x22*3))+1<=(r3.length:Int))/\((-9223372036854775808:Int)<=(x25+x23)/\((0<=((0+(x22*3))+2)/\((0+(x22*3))+2)+1<=(r3.length:Int))/\∀r4:List Value,r4=aE r3 (((0+(x22*3))+2)).toNat [(vI (x25+x23))]->((x17+1)<=9223372036854775807/\((n3<=9223372036854775807/\c3<=9223372036854775807)/\(mi<=(x17+1)/\(x17+1)<=ma)/\(K.i64 (x21+x5))/\((F4 (p3.map fun p=>p.add 0) n3 c3 (x17+1) (x21+x5) r2 r4).1/\(F4 (p3.map fun p=>p.add 0) n3 c3 (x17+1) (x21+x5) r2 r4).2<(F4 p3 n3 c3 x17 x18 r2 r3).2)))))))))))))))))))))))))))))/\
 ((n1:Int)<=x17->
 (∀m5:Mem,ac m2 m5->bJ m5 p3 r2->((n3<=9223372036854775807/\c3<=9223372036854775807)/\(K.i64 0)/\gD x0 x1 x2 x3 x4 x5 x6 p0 n0 c0 p1 n1 c1 m5 (p3.map fun p=>p.add 0) n3 c3 0)))))))))))))))
theorem FS:Ai:=by
 intro m x0 _ _ x1 _ _ x2 _ _ x3 _ _ x4 _ _ x5 k5 k5' x6 k6 k6' p0 n0 c0 hn0 hc0 p1 n1 c1 hn1 hc1 ⟨⟨hgl,hb⟩,L,l,hL,hl⟩
 have hLn:=hL.1
 have hln:=hl.1
 have ps:∀(m':Mem) (q:Option Addr) (n2 c2:Nat) (z:Int),ac m m'->z=ol x0 x1 x2 x3 x5 x6 L l->eg m' q (aV 3 (hZ x0 x1 x2 x3 x5 x6 L l (dz x5 x6 L)))->n2=(hZ x0 x1 x2 x3 x5 x6 L l (dz x5 x6 L)).length->gD x0 x1 x2 x3 x4 x5 x6 p0 n0 c0 p1 n1 c1 m' q n2 c2 z:=by
  intro m' q n2 c2 z h e1 e2 e3 L' l' hL' hl'
  rw [<-hL.uniq h hL',<-hl.uniq h hl']
  exact ⟨e1,e2,e3⟩
 have none_:∀m':Mem,eg m' none []:=fun m'=>⟨(fun p h=>by cases h),fun _=>rfl⟩
 refine ⟨⟨hn0,hc0⟩,⟨hgl,L,by rw [ai];exact hL⟩,fun m1 hm1 e ek1 ek2 he => ?_⟩
 rw [ai] at he
 have he:e=gf x0 x1 x2 x3 x5 x6 L:=he L (hL.sub hm1)
 refine ⟨fun hne => ?_,fun h0 => ?_⟩
 ·have ha:ol x0 x1 x2 x3 x5 x6 L l=e:=by unfold ol;rw [<-he,if_pos hne]
  have hi:hZ x0 x1 x2 x3 x5 x6 L l (dz x5 x6 L)=[]:=by unfold hZ;rw [ha,if_neg hne]
  exact ⟨⟨ek1,ek2⟩,ps m1 none 0 0 e hm1 ha.symm (by rw [hi];exact none_ _) (by rw [hi];rfl)⟩
 have hc:gf x0 x1 x2 x3 x5 x6 L=0:=by rw [<-he];exact h0
 refine ⟨⟨hn1,hc1⟩,?_⟩
 rw [ai]
 refine ⟨?_,fun m2 hm2 y yk1 yk2 g gk1 gk2 hg => ?_⟩
 ·exact ⟨l,hl.sub hm1⟩
 have hg0:(y,g)=iG (n0:Int) l:=hg l (hl.sub hm1 |>.sub hm2)
 have hc0':gf x0 x1 x2 x3 x5 x6 L=0:=hc
 have ha:ol x0 x1 x2 x3 x5 x6 L l=g:=by unfold ol;rw [if_neg (by rw [hc];simp),hLn,<-hg0]
 refine ⟨fun hne => ?_,fun g0 => ?_⟩
 ·have hi:hZ x0 x1 x2 x3 x5 x6 L l (dz x5 x6 L)=[]:=by unfold hZ;rw [ha,if_neg hne]
  exact ⟨⟨gk1,gk2⟩,ps m2 none 0 0 g (hm1.trans hm2) ha.symm (by rw [hi];exact none_ _) (by rw [hi];rfl)⟩
 rw [g0] at hg0 ha
 have hi:hZ x0 x1 x2 x3 x5 x6 L l (dz x5 x6 L)=bZ (marks (dz x5 x6 L) l l.length) 0:=by unfold hZ;rw [ha,if_pos rfl]
 obtain ⟨hjl,hev⟩:=pj hg0
 obtain ⟨h64,⟨hT,hTau⟩,hjob⟩:=sa hc
 have hL2:=(hL.sub hm1).sub hm2
 have hl2:=(hl.sub hm1).sub hm2
 have kz:K.i64 0:=by constructor<;>decide
 refine ⟨⟨by omega,by omega⟩,fun p2 r0 hr0 => ?_⟩
 have hr0l:r0.length=3*n0:=by rw [hr0,dE];simp;omega
 refine ⟨fun y r=>(∃i:Nat,y=i/\i<=n0/\r.length=3*n0/\(∀j,j<n0->r[3*j+2]? = some (.int .i64 0))/\∀j J,j<i->L[j]? = some J->r[3*j]? = some (.int .i64 J.pol.lim.t)/\r[3*j+1]? = some (.int .i64 J.pol.lim.tau),((n0:Int)-y).toNat),⟨kz,0,rfl,by omega,hr0l,fun j hj => ?_,fun j J hj=>by omega⟩,?_⟩
 ·rw [hr0,oW _ _ _ (by simp;omega)]
  have:(3*j+2) % 3=2:=by omega
  simp [this]
 rintro y2 yk3 yk4 r1 ⟨i,rfl,hi0,hr1l,hz,hlim⟩
 refine ⟨fun hlt => ?_,fun hge => ?_⟩
 ·obtain ⟨J,hJ,hat⟩:=hL2.at_ (i:=(i:Int)) (by omega) hlt
  rw [Int.toNat_natCast] at hJ
  obtain ⟨⟨q1,q2⟩,_,_,hp⟩:=hat
  have e1:(0+(i:Int)*3).toNat=3*i:=by omega
  have hlen:3*i+[Value.int IntKind.i64 J.pol.lim.t,.int .i64 J.pol.lim.tau].length<=r1.length:=by simp only [List.length_cons,List.length_nil];omega
  refine ⟨by omega,q1,q2,by omega,by simp,_,hp.2.2.2.2.2.2.1.1,hp.2.2.2.2.2.2.1.2,_,hp.2.2.2.2.2.2.2.1.1,hp.2.2.2.2.2.2.2.1.2,⟨by omega,by omega⟩,fun r2 hr2=>⟨by omega,dy (by omega) (by omega),⟨i+1,by omega,by omega,?_,fun j hj => ?_,fun j T hj hT2 => ?_⟩,by first | omega | (simp only;omega)⟩⟩
  ·rw [hr2,fc];exact hr1l
  ·rw [hr2,e1,ii _ _ _ _ hlen,if_neg (by simp only [List.length_cons,List.length_nil];omega)]
   exact hz j hj
  ·rw [hr2,e1,ii _ _ _ _ hlen,ii _ _ _ _ hlen]
   simp only [List.length_cons,List.length_nil]
   by_cases e:j=i
   ·subst e
    rw [hJ] at hT2;cases hT2
    rw [if_pos (by omega),if_pos (by omega)]
    have:3*j+1-3*j=1:=by omega
    rw [this,Nat.sub_self]
    exact ⟨rfl,rfl⟩
   ·rw [if_neg (by omega),if_neg (by omega)]
    exact hlim j T (by omega) hT2
 have hin:i=n0:=by omega
 subst hin
 have how:lA r1 L (l.take 0):=⟨by omega,fun j J hJ=>by
  have hjl:=(List.getElem?_eq_some_iff.1 hJ).1
  obtain ⟨g1,g2⟩:=hlim j J (by omega) hJ
  exact ⟨g1,g2,hz j (by omega)⟩⟩
 refine ⟨fun q n c y v r2 r3=>(yY x5 x6 L l q n y v r2 r3,((n1:Int)-y).toNat),⟨kz,kz,0,rfl,by omega,rfl,rfl,rfl,fun _=>rfl,how⟩,?_⟩
 rintro p3 n3 c3 hn3 hc3 y3 yk5 yk6 v vk1 vk2 r2 r3 ⟨i,rfl,hil,hv,hr2,hn3',hq,hown⟩
 refine ⟨fun hlt => ?_,fun hge => ?_⟩
 rotate_left
 ·intro m5 hm5 hrow
  have e:i=l.length:=by omega
  subst e
  rw [ai]
  refine ⟨⟨hn3,hc3⟩,kz,ps m5 p3 n3 c3 0 ((hm1.trans hm2).trans hm5) ha.symm ?_ ?_⟩
  ·rw [hi,<-hr2];exact ⟨hrow,hq⟩
  ·rw [hi];exact hn3'
 obtain ⟨x,hx,hpn,hat,hhas⟩:=hl2.at_ (i:=(i:Int)) (by omega) hlt
 rw [Int.toNat_natCast] at hx
 have hva:=fR (hev i x hx)
 have htk:l.take (i+1)=l.take i++[x]:=by
  obtain ⟨hx1,hx2⟩:=List.getElem?_eq_some_iff.1 hx
  rw [<-hx2,List.take_append_getElem hx1]
 have hb':l.length<=1000000:=by omega
 have hat0:=wR hva.1
 refine ⟨by omega,hpn,hhas,x.kind,hat.1.1,hat.1.2,fun hk => ?_,fun hk => ?_⟩
 ·refine xE (x:=x) hx hb' hln hr2 hn3' hq (by simp [dz,hk]) ?_ ⟨vk1,vk2⟩ ?_ ⟨hn3,hc3⟩
  ·rw [htk,lR,if_neg (fun g=>hk g.1),List.append_nil];exact hv
  ·rw [htk];exact hown.skip hk
 have hj0:=oA hva.1 (by omega)
 have hj1:=hva.2.1 (by omega)
 obtain ⟨j,hj⟩:=Int.eq_ofNat_of_zero_le hj0
 have hjl2:j<L.length:=by omega
 have hJ:L[j]? = some L[j]:=List.getElem?_eq_getElem hjl2
 generalize L[j]=J at hJ
 obtain ⟨o1,o2,o3⟩:=hown.2 j J hJ
 obtain ⟨_,hJT,hJTau⟩:=hjob J (List.mem_of_getElem? hJ)
 have hts:∀z∈l.take i,z.at_<=253402300799:=by
  intro z hz'
  obtain ⟨k,hk'⟩:=List.getElem?_of_mem (List.mem_of_mem_take hz')
  exact (wR (fR (hev k z hk')).1).2
 have htl:(l.take i).length<=1000000:=by rw [List.length_take];omega
 have hs1:=uV (q:=lj) hT htl hts
 have hs2:=uV (q:=jq j) hJT htl hts
 rw [<-hv] at hs1
 have hvn:max v x.at_+x5=eD x5 (uQ lj (l.take (i+1))):=by
  rw [htk,lR,if_pos ⟨hk,rfl⟩,qe,<-hv]
 generalize hw:eD J.pol.lim.t (uQ (jq j) (l.take i))=w at o3 hs2
 have hm1':=Int.le_max_left v x.at_
 have hm2':=Int.le_max_right v x.at_
 have hm3':max v x.at_<=69000000000000000:=Int.max_le.2 ⟨hs1.2,by omega⟩
 have hm4':=Int.le_max_left w x.at_
 have hm5':=Int.le_max_right w x.at_
 have hm6':max w x.at_<=69000000000000000:=Int.max_le.2 ⟨hs2.2,by omega⟩
 have hrate:dz x5 x6 L (l.take i) x=((decide (0<x5)&&decide (x.at_<v-x6))||(decide (0<J.pol.lim.t)&&decide (x.at_<w-J.pol.lim.tau))):=by
  unfold dz As.early
  rw [hj,Int.toNat_natCast,hJ]
  simp only [hk,decide_true,Bool.true_and]
  rw [<-hv,hw]
 have hrl:=hown.1
 have i0:br r3 (0+x.job*3)=some (.int .i64 J.pol.lim.t):=jx (jv o1 rfl) (by omega)
 have i1:br r3 ((0+x.job*3)+1)=some (.int .i64 J.pol.lim.tau):=jx (jv o2 rfl) (by omega)
 have i2:br r3 ((0+x.job*3)+2)=some (.int .i64 w):=jx (jv o3 rfl) (by omega)
 have hst:((0+x.job*3)+2).toNat=3*j+2:=by omega
 have hown':∀r4:List Value,r4=aE r3 ((0+x.job*3)+2).toNat [.int .i64 (max w x.at_+J.pol.lim.t)]->lA r4 L (l.take (i+1)):=by
  intro r4 hr4
  rw [htk,hr4,hst]
  exact hown.step hk hj hJ (by rw [hw])
 have kv:K.i64 (max v x.at_+x5):=dy (by omega) (by omega)
 have hit:=fun r4 hr4 hf=>HA (v:=max v x.at_+x5) (r4:=r4) (x:=x) hx hb' hln hr2 hn3' hf hvn kv (hown' r4 hr4)
 have mis:=fun r4 hr4 hf=>xE (c:=c3) (v:=max v x.at_+x5) (r4:=r4) (x:=x) hx hb' hln hr2 hn3' hq hf hvn kv (hown' r4 hr4) ⟨hn3,hc3⟩
 refine ⟨x.at_,hat.2.1.1,hat.2.1.2,fun h5=>⟨by omega,by omega,fun z hz' => ?_⟩,fun h5 z hz' => ?_⟩
 ·simp only [cond_true] at hz'
  subst hz'
  refine ⟨dy (by omega) (by omega),by omega,x.job,hat.2.2.1.1,hat.2.2.1.2,by omega,by omega,by simp,⟨by omega,by omega⟩,_,i0,dy (by omega) (by omega),fun hp=>⟨⟨by omega,by omega⟩,_,i2,dy (by omega) (by omega),⟨by omega,by omega⟩,_,i1,dy (by omega) (by omega),by omega,by omega,⟨by omega,by omega⟩,fun z2 hz2 => ?_⟩,fun hp=>⟨⟨by omega,by omega⟩,_,i2,dy (by omega) (by omega),fun z2 hz2 => ?_⟩⟩
  ·simp only [cond_true] at hz2
   subst hz2
   refine ⟨dy (by omega) (by omega),⟨by omega,by omega⟩,by omega,⟨by omega,by omega⟩,fun r4 hr4=>⟨fun hA => ?_,fun hA=>⟨fun hB => ?_,fun hB => ?_⟩⟩⟩
   ·exact hit r4 hr4 (by rw [hrate];simp [h5,hA])
   ·exact hit r4 hr4 (by rw [hrate];simp [hp,hB])
   ·exact mis r4 hr4 (by rw [hrate];simp;exact ⟨fun _=>hA,fun _=>hB⟩)
  ·simp only [cond_true] at hz2
   subst hz2
   refine ⟨dy (by omega) (by omega),⟨by omega,by omega⟩,by omega,⟨by omega,by omega⟩,fun r4 hr4=>⟨fun hA => ?_,fun hA => ?_⟩⟩
   ·exact hit r4 hr4 (by rw [hrate];simp [h5,hA])
   ·exact mis r4 hr4 (by rw [hrate];simp;exact ⟨fun _=>hA,fun h=>by omega⟩)
 ·simp only [cond_true] at hz'
  subst hz'
  refine ⟨dy (by omega) (by omega),by omega,x.job,hat.2.2.1.1,hat.2.2.1.2,by omega,by omega,by simp,⟨by omega,by omega⟩,_,i0,dy (by omega) (by omega),fun hp=>⟨⟨by omega,by omega⟩,_,i2,dy (by omega) (by omega),⟨by omega,by omega⟩,_,i1,dy (by omega) (by omega),by omega,by omega,⟨by omega,by omega⟩,fun z2 hz2 => ?_⟩,fun hp=>⟨⟨by omega,by omega⟩,_,i2,dy (by omega) (by omega),fun z2 hz2 => ?_⟩⟩
  ·simp only [cond_true] at hz2
   subst hz2
   refine ⟨dy (by omega) (by omega),⟨by omega,by omega⟩,by omega,⟨by omega,by omega⟩,fun r4 hr4=>⟨fun hB => ?_,fun hB => ?_⟩⟩
   ·exact hit r4 hr4 (by rw [hrate];simp [hp,hB])
   ·exact mis r4 hr4 (by rw [hrate];simp;exact ⟨fun h=>by omega,fun _=>hB⟩)
  ·simp only [cond_true] at hz2
   subst hz2
   refine ⟨dy (by omega) (by omega),⟨by omega,by omega⟩,by omega,⟨by omega,by omega⟩,fun r4 hr4 => ?_⟩
   exact mis r4 hr4 (by rw [hrate];simp;exact ⟨fun h=>by omega,fun h=>by omega⟩)
theorem FR:∀m,bG Cf.args Cf.spec fun r=>r.1 m->bg m []:=fun m a b c d s t u p n cc p1 n1 c1 h=>trivial
theorem Aj:cI Tryz.prog Cf:=
 ot [] [] [] rfl (aZ [vv,wu] ⟨kJ,⟨kZ,trivial⟩⟩ rfl) (bC _ [⟨(44,6),[],[],[],[2]⟩,⟨(29,3),[(4,2,.i .i64)],[],[(7,41)],[2]⟩]) 1000 Cf _ rfl rfl FR (Eq.mp (show Ai=_ by kernel_rfl) FS)
end
section
open As
def wx (k:Int) (f:List Ev->Ev->Bool) (l:List Ev) (q:Option Addr) (n i:Nat) (r:List Value):Prop:=r=aV k (bZ (marks f l i) 0)/\n=(bZ (marks f l i) 0).length/\(q=none->r=[])
theorem wx.zero (k:Int) (f:List Ev->Ev->Bool) (l:List Ev) (q:Option Addr):wx k f l q 0 0 []:=⟨rfl,rfl,fun _=>rfl⟩
theorem wx.hit {k:Int} {f:List Ev->Ev->Bool} {l:List Ev} {q:Option Addr} {n i:Nat} {r:List Value} {x:Ev} (h:wx k f l q n i r) (hx:l[i]? = some x) (hl:l.length<=1000000) (hf:f (l.take i) x=true) :
  (2*((n:Int)+1)*16<=281474976710656)/\∀(p4:Addr) (r5:List Value),r5=r++[.int .i64 k,.int .i64 (i:Int)]->Int.toNat ((n:Int)+1)<=9223372036854775807/\wx k f l ((some p4).map fun p=>p.add 0) (Int.toNat ((n:Int)+1)) (i+1) r5:=by
 obtain ⟨hr,hn,_⟩:=h
 have hi:=(List.getElem?_eq_some_iff.1 hx).1
 have hm:=bv f l i
 have e:=mH (f:=f) hx hf
 refine ⟨by omega,fun p4 r5 hr5=>⟨by omega,?_,?_,(fun h=>by cases h)⟩⟩
 ·rw [hr5,e,mw,hr]
 ·rw [e,List.length_append,<-hn];simp
theorem wx.miss {k:Int} {f:List Ev->Ev->Bool} {l:List Ev} {q:Option Addr} {n i:Nat} {r:List Value} {x:Ev} (h:wx k f l q n i r) (hx:l[i]? = some x) (hf:f (l.take i) x=false):wx k f l (q.map fun p=>p.add 0) n (i+1) r:=by
 obtain ⟨hr,hn,hq⟩:=h
 have e:=kR (f:=f) hx hf
 rw [ai]
 exact ⟨by rw [e];exact hr,by rw [e];exact hn,hq⟩
theorem jA (q:Ev->Bool):∀l:List Ev,-(l.length:Int)<=di q l/\di q l<=(l.length:Int):=by
 have key:∀(n:Nat) (l:List Ev),l.length=n-> -(l.length:Int)<=di q l/\di q l<=(l.length:Int):=by
  intro n
  induction n with
  | zero=>
   intro l h
   have:l=[]:=List.length_eq_zero_iff.1 h
   subst this
   exact ⟨Int.le_refl _,Int.le_refl _⟩
  | succ n ih =>
   intro l h
   rcases List.eq_nil_or_concat l with h0 | ⟨p,x,h0⟩
   ·rw [h0] at h;cases h
   ·rw [List.concat_eq_append] at h0
    subst h0
    rw [List.length_append] at h
    have:=ih p (by simpa using h)
    rw [fg,List.length_append]
    simp only [List.length_cons,List.length_nil]
    split
    ·split<;>omega
    ·split
     ·split<;>omega
     ·omega
 exact fun l=>key _ l rfl
theorem xS {q:Ev->Bool} {p:List Ev} {x:Ev} (h:q x=false):di q (p++[x])=di q p:=by
 rw [fg,h];simp
def lu (r:List Value) (L:List cr) (p:List Ev):Prop:=r.length=L.length/\∀j:Nat,j<L.length->r[j]? = some (.int .i64 (di (jq j) p))
theorem lu.skip {r:List Value} {L:List cr} {p:List Ev} {x:Ev} (h:lu r L p) (hk:x.kind≠1) (he:iY x=false):lu r L (p++[x]):=by
 refine ⟨h.1,fun j hj => ?_⟩
 rw [fg,if_neg hk,he]
 exact h.2 j hj
theorem lu.step {r:List Value} {L:List cr} {p:List Ev} {x:Ev} {j:Nat} {v:Int} (h:lu r L p) (hj:x.job=(j:Int)) (hjl:j<L.length) (hv:v=di (jq j) (p++[x])):lu (aE r j [.int .i64 v]) L (p++[x]):=by
 refine ⟨by rw [fc];exact h.1,fun k hk => ?_⟩
 rw [ii _ _ _ _ (by rw [h.1];simp only [List.length_cons,List.length_nil];omega)]
 simp only [List.length_cons,List.length_nil]
 by_cases e:k=j
 ·subst e
  rw [if_pos (by omega),Nat.sub_self,<-hv];rfl
 ·rw [if_neg (by omega),xS (by simp only [jq,decide_eq_false_iff_not];omega)]
  exact h.2 k hk
def ir (a:Int) (L:List cr) (p:List Ev) (x:Ev):Bool:=
 decide (x.kind=1)&&(decide (a<di lj (p++[x]))||match L[x.job.toNat]? with | some J=>decide (J.pol.cap<di (jq x.job) (p++[x])) | none=>false)
theorem vm {l:List Ev} {i:Nat} {x:Ev} (h:l[i]? = some x):l.take (i+1)=l.take i++[x]:=by
 obtain ⟨hx1,hx2⟩:=List.getElem?_eq_some_iff.1 h
 rw [<-hx2,List.take_append_getElem hx1]
def uv (j:Int) (p:List Ev):Int:=p.foldl (fun u x=>if (x.kind=7\/x.kind=8)/\x.job=j then x.when_ else u) 0
theorem qz (j:Int) (p:List Ev) (x:Ev):uv j (p++[x])=if (x.kind=7\/x.kind=8)/\x.job=j then x.when_ else uv j p:=by unfold uv;rw [List.foldl_append];rfl
theorem Jg (j:Int):∀p:List Ev,(∀x∈p,K.i64 x.when_)->K.i64 (uv j p):=by
 have key:∀(n:Nat) (p:List Ev),p.length=n->(∀x∈p,K.i64 x.when_)->K.i64 (uv j p):=by
  intro n
  induction n with
  | zero=>
   intro p h _
   have:p=[]:=List.length_eq_zero_iff.1 h
   subst this
   exact (dy (by decide) (by decide):K.i64 0)
  | succ n ih =>
   intro p h hk
   rcases List.eq_nil_or_concat p with h0 | ⟨q,x,h0⟩
   ·rw [h0] at h;cases h
   ·rw [List.concat_eq_append] at h0
    subst h0
    rw [List.length_append] at h
    rw [qz]
    split
    ·exact hk x (by simp)
    ·exact ih q (by simpa using h) (fun y hy=>hk y (List.mem_append_left _ hy))
 exact fun p=>key _ p rfl
def lC (r:List Value) (L:List cr) (p:List Ev):Prop:=r.length=L.length/\∀j:Nat,j<L.length->r[j]? = some (.int .i64 (uv j p))
theorem lC.skip {r:List Value} {L:List cr} {p:List Ev} {x:Ev} (h:lC r L p) (hk:¬(x.kind=7\/x.kind=8)):lC r L (p++[x]):=by
 refine ⟨h.1,fun j hj => ?_⟩
 rw [qz,if_neg (fun g=>hk g.1)]
 exact h.2 j hj
theorem lC.step {r:List Value} {L:List cr} {p:List Ev} {x:Ev} {j:Nat} (h:lC r L p) (hk:x.kind=7\/x.kind=8) (hj:x.job=(j:Int)) (hjl:j<L.length):lC (aE r j [.int .i64 x.when_]) L (p++[x]):=by
 refine ⟨by rw [fc];exact h.1,fun k hk' => ?_⟩
 rw [ii _ _ _ _ (by rw [h.1];simp only [List.length_cons,List.length_nil];omega)]
 simp only [List.length_cons,List.length_nil]
 rw [qz]
 by_cases e:k=j
 ·subst e
  rw [if_pos (by omega),if_pos ⟨hk,hj⟩,Nat.sub_self];rfl
 ·rw [if_neg (by omega),if_neg (fun g=>by have:=g.2;omega)]
  exact h.2 k hk'
def eF (p:List Ev) (x:Ev):Bool:=decide (x.kind=1)&&decide (x.at_<uv x.job p)
end
section
open As
def lD (a b c d s t u:Int) (p:Option Addr) (n cc:Nat) (p1:Option Addr) (n1 c1:Nat) (m:Mem):Prop:=(dJ m ln/\n1<=1000000)/\∃L l,cM m p n L/\dx m p1 n1 l
def fN (a b c d s t u:Int) (p:Option Addr) (n cc:Nat) (p1:Option Addr) (n1 c1:Nat) (m:Mem) (q:Option Addr) (n2 c2:Nat) (z:Int):Prop:=∀L l,cM m p n L->dx m p1 n1 l->z=ol a b c d t u L l/\eg m q (aV 2 (hZ a b c d t u L l (ir a L)))/\n2=(hZ a b c d t u L l (ir a L)).length
def yh:Sp:={ args:=[.i .i64,.i .i64,.i .i64,.i .i64,.i .u64,.i .i64,.i .i64,.sl,.sl],grp:=[some 8,none],res:=[.sl,.i .i64],rgrp:=[none,none],fn:=15,spec:=fun a0 a1 a2 a3 a4 a5 a6 a7 a8 a9 a10 a11 a12=>(lD a0 a1 a2 a3 a4 a5 a6 a7 a8 a9 a10 a11 a12,fN a0 a1 a2 a3 a4 a5 a6 a7 a8 a9 a10 a11 a12) }
def Af:Prop:=∀m:Mem,∀x0:Int,mi<=x0->x0<=ma->∀x1:Int,mi<=x1->x1<=ma->∀x2:Int,mi<=x2->x2<=ma->∀x3:Int,mi<=x3->x3<=ma->∀x4:Int,IntKind.u64.min<=x4->x4<=IntKind.u64.max->∀x5:Int,mi<=x5->x5<=ma->∀x6:Int,mi<=x6->x6<=ma->∀(p0:Option Addr) (n0 c0:Nat),n0<=9223372036854775807->c0<=9223372036854775807->∀(p1:Option Addr) (n1 c1:Nat),n1<=9223372036854775807->c1<=9223372036854775807->lD x0 x1 x2 x3 x4 x5 x6 p0 n0 c0 p1 n1 c1 m->
 ((n0<=9223372036854775807/\c0<=9223372036854775807)/\fw x0 x1 x2 x3 x4 x5 x6 (p0.map fun p=>p.add 0) n0 c0 m/\∀m1:Mem,ac m m1->∀x11:Int,mi<=x11->x11<=ma->aH x0 x1 x2 x3 x4 x5 x6 (p0.map fun p=>p.add 0) n0 c0 m1 x11->
 ((x11≠0->
 ((K.i64 x11)/\fN x0 x1 x2 x3 x4 x5 x6 p0 n0 c0 p1 n1 c1 m1 none 0 0 x11))/\
 (x11=0->
 ((n1<=9223372036854775807/\c1<=9223372036854775807)/\gv (p1.map fun p=>p.add 0) n1 c1 (n0:Int) m1/\∀m2:Mem,ac m1 m2->∀x12:Int,mi<=x12->x12<=ma->∀x13:Int,mi<=x13->x13<=ma->aI (p1.map fun p=>p.add 0) n1 c1 (n0:Int) m2 x12 x13->
 ((x13≠0->
 ((K.i64 x13)/\fN x0 x1 x2 x3 x4 x5 x6 p0 n0 c0 p1 n1 c1 m2 none 0 0 x13))/\
 (x13=0->
 ((0<=(n0:Int)/\(n0:Int)<=1000000)/\∀(p2:Addr) (r0:List Value),r0=cP ((n0:Int)).toNat [(vI 0)]->(∃F3:Option Addr->Nat->Nat->Int->Int->List Value->List Value->Prop×Nat,((K.i64 0)/\(K.i64 0)/\(F3 none 0 0 0 0 [] r0).1)/\
 ∀(p3:Option Addr) (n3 c3:Nat),n3<=9223372036854775807->c3<=9223372036854775807->∀x16:Int,mi<=x16->x16<=ma->∀x17:Int,mi<=x17->x17<=ma->∀r1:List Value,∀r2:List Value,(F3 p3 n3 c3 x16 x17 r1 r2).1->
 ((x16<(n1:Int)->
 (0<=x16/\(p1≠none/\(cw m2 p1 (0+(x16*8)) 8/\(∃x18:Int,ae m2 p1 (0+(x16*8))=some (vI x18)/\(K.i64 x18)/\((x18=1->
 ((x17+1)<=9223372036854775807/\(∃x19:Int,ae m2 p1 ((0+(x16*8))+2)=some (vI x19)/\(K.i64 x19)/\(0<=x19/\(x19<(n0:Int)/\((some p2)≠none/\((0<=(0+x19)/\(0+x19)+1<=(r2.length:Int))/\(∃x20:Int,br r2 (0+x19)=some (vI x20)/\(K.i64 x20)/\((x20+1)<=9223372036854775807/\(0<=x19/\(x19<(n0:Int)/\((some p2)≠none/\((0<=(0+x19)/\(0+x19)+1<=(r2.length:Int))/\∀r3:List Value,r3=aE r2 ((0+x19)).toNat [(vI (x20+1))]->((x0<(x17+1)->
 ((2*((n3:Int)+1)*16<=281474976710656)/\∀(p4:Addr) (c4:Nat) (r4:List Value),r4=r1++[(vI 2),(vI x16)]->(n3:Int)+1<=(c4:Int)->c4<=9223372036854775807->((x16+1)<=9223372036854775807/\(((Int.toNat ((n3:Int)+1))<=9223372036854775807/\c4<=9223372036854775807)/\(mi<=(x16+1)/\(x16+1)<=ma)/\(mi<=(x17+1)/\(x17+1)<=ma)/\((F3 ((some p4).map fun p=>p.add 0) (Int.toNat ((n3:Int)+1)) c4 (x16+1) (x17+1) r4 r3).1/\(F3 ((some p4).map fun p=>p.add 0) (Int.toNat ((n3:Int)+1)) c4 (x16+1) (x17+1) r4 r3).2<(F3 p3 n3 c3 x16 x17 r1 r2).2)))))/\
 ((x17+1)<=x0->
 (0<=x19/\(x19<(n0:Int)/\((some p2)≠none/\((0<=(0+x19)/\(0+x19)+1<=(r3.length:Int))/\(∃x21:Int,br r3 (0+x19)=some (vI x21)/\(K.i64 x21)/\(0<=x19/\(x19<(n0:Int)/\(p0≠none/\(cw m2 p0 ((0+(x19*30))+15) 1/\(∃x22:Int,ae m2 p0 ((0+(x19*30))+15)=some (vI x22)/\(K.i64 x22)/\((x22<x21->
 ((2*((n3:Int)+1)*16<=281474976710656)/\∀(p4:Addr) (c4:Nat) (r4:List Value),r4=r1++[(vI 2),(vI x16)]->(n3:Int)+1<=(c4:Int)->c4<=9223372036854775807->((x16+1)<=9223372036854775807/\(((Int.toNat ((n3:Int)+1))<=9223372036854775807/\c4<=9223372036854775807)/\(mi<=(x16+1)/\(x16+1)<=ma)/\(mi<=(x17+1)/\(x17+1)<=ma)/\((F3 ((some p4).map fun p=>p.add 0) (Int.toNat ((n3:Int)+1)) c4 (x16+1) (x17+1) r4 r3).1/\(F3 ((some p4).map fun p=>p.add 0) (Int.toNat ((n3:Int)+1)) c4 (x16+1) (x17+1) r4 r3).2<(F3 p3 n3 c3 x16 x17 r1 r2).2)))))/\
 (x21<=x22->
 ((x16+1)<=9223372036854775807/\((n3<=9223372036854775807/\c3<=9223372036854775807)/\(mi<=(x16+1)/\(x16+1)<=ma)/\(mi<=(x17+1)/\(x17+1)<=ma)/\((F3 (p3.map fun p=>p.add 0) n3 c3 (x16+1) (x17+1) r1 r3).1/\(F3 (p3.map fun p=>p.add 0) n3 c3 (x16+1) (x17+1) r1 r3).2<(F3 p3 n3 c3 x16 x17 r1 r2).2))))))))))))))))))))))))))))))/\
 (x18≠1->
 ((x18=2->
 ((-9223372036854775808:Int)<=(x17-1)/\(∃x19:Int,ae m2 p1 ((0+(x16*8))+2)=some (vI x19)/\(K.i64 x19)/\(0<=x19/\(x19<(n0:Int)/\((some p2)≠none/\((0<=(0+x19)/\(0+x19)+1<=(r2.length:Int))/\(∃x20:Int,br r2 (0+x19)=some (vI x20)/\(K.i64 x20)/\((-9223372036854775808:Int)<=(x20-1)/\(0<=x19/\(x19<(n0:Int)/\((some p2)≠none/\((0<=(0+x19)/\(0+x19)+1<=(r2.length:Int))/\∀r3:List Value,r3=aE r2 ((0+x19)).toNat [(vI (x20-1))]->((x16+1)<=9223372036854775807/\((n3<=9223372036854775807/\c3<=9223372036854775807)/\(mi<=(x16+1)/\(x16+1)<=ma)/\(mi<=(x17-1)/\(x17-1)<=ma)/\((F3 (p3.map fun p=>p.add 0) n3 c3 (x16+1) (x17-1) r1 r3).1/\(F3 (p3.map fun p=>p.add 0) n3 c3 (x16+1) (x17-1) r1 r3).2<(F3 p3 n3 c3 x16 x17 r1 r2).2))))))))))))))))/\
 (x18≠2->
 ((x18=3->
 ((-9223372036854775808:Int)<=(x17-1)/\(∃x19:Int,ae m2 p1 ((0+(x16*8))+2)=some (vI x19)/\(K.i64 x19)/\(0<=x19/\(x19<(n0:Int)/\((some p2)≠none/\((0<=(0+x19)/\(0+x19)+1<=(r2.length:Int))/\(∃x20:Int,br r2 (0+x19)=some (vI x20)/\(K.i64 x20)/\((-9223372036854775808:Int)<=(x20-1)/\(0<=x19/\(x19<(n0:Int)/\((some p2)≠none/\((0<=(0+x19)/\(0+x19)+1<=(r2.length:Int))/\∀r3:List Value,r3=aE r2 ((0+x19)).toNat [(vI (x20-1))]->((x16+1)<=9223372036854775807/\((n3<=9223372036854775807/\c3<=9223372036854775807)/\(mi<=(x16+1)/\(x16+1)<=ma)/\(mi<=(x17-1)/\(x17-1)<=ma)/\((F3 (p3.map fun p=>p.add 0) n3 c3 (x16+1) (x17-1) r1 r3).1/\(F3 (p3.map fun p=>p.add 0) n3 c3 (x16+1) (x17-1) r1 r3).2<(F3 p3 n3 c3 x16 x17 r1 r2).2))))))))))))))))/\
 (x18≠3->
 ((x16+1)<=9223372036854775807/\((n3<=9223372036854775807/\c3<=9223372036854775807)/\(mi<=(x16+1)/\(x16+1)<=ma)/\(K.i64 x17)/\((F3 (p3.map fun p=>p.add 0) n3 c3 (x16+1) x17 r1 r2).1/\(F3 (p3.map fun p=>p.add 0) n3 c3 (x16+1) x17 r1 r2).2<(F3 p3 n3 c3 x16 x17 r1 r2).2))))))))))))))/\
 ((n1:Int)<=x16->
 (∀m4:Mem,ac m2 m4->bJ m4 p3 r1->((n3<=9223372036854775807/\c3<=9223372036854775807)/\(K.i64 0)/\fN x0 x1 x2 x3 x4 x5 x6 p0 n0 c0 p1 n1 c1 m4 (p3.map fun p=>p.add 0) n3 c3 0))))))))))))
theorem FK:Af:=by
 intro m x0 _ _ x1 _ _ x2 _ _ x3 _ _ x4 _ _ x5 k5 k5' x6 k6 k6' p0 n0 c0 hn0 hc0 p1 n1 c1 hn1 hc1 ⟨⟨hgl,hb⟩,L,l,hL,hl⟩
 have hLn:=hL.1
 have hln:=hl.1
 have ps:∀(m':Mem) (q:Option Addr) (n2 c2:Nat) (z:Int),ac m m'->z=ol x0 x1 x2 x3 x5 x6 L l->eg m' q (aV 2 (hZ x0 x1 x2 x3 x5 x6 L l (ir x0 L)))->n2=(hZ x0 x1 x2 x3 x5 x6 L l (ir x0 L)).length->fN x0 x1 x2 x3 x4 x5 x6 p0 n0 c0 p1 n1 c1 m' q n2 c2 z:=by
  intro m' q n2 c2 z h e1 e2 e3 L' l' hL' hl'
  rw [<-hL.uniq h hL',<-hl.uniq h hl']
  exact ⟨e1,e2,e3⟩
 have none_:∀m':Mem,eg m' none []:=fun m'=>⟨(fun p h=>by cases h),fun _=>rfl⟩
 refine ⟨⟨hn0,hc0⟩,⟨hgl,L,by rw [ai];exact hL⟩,fun m1 hm1 e ek1 ek2 he => ?_⟩
 rw [ai] at he
 have he:e=gf x0 x1 x2 x3 x5 x6 L:=he L (hL.sub hm1)
 refine ⟨fun hne => ?_,fun h0 => ?_⟩
 ·have ha:ol x0 x1 x2 x3 x5 x6 L l=e:=by unfold ol;rw [<-he,if_pos hne]
  have hi:hZ x0 x1 x2 x3 x5 x6 L l (ir x0 L)=[]:=by unfold hZ;rw [ha,if_neg hne]
  exact ⟨⟨ek1,ek2⟩,ps m1 none 0 0 e hm1 ha.symm (by rw [hi];exact none_ _) (by rw [hi];rfl)⟩
 have hc:gf x0 x1 x2 x3 x5 x6 L=0:=by rw [<-he];exact h0
 refine ⟨⟨hn1,hc1⟩,?_⟩
 rw [ai]
 refine ⟨?_,fun m2 hm2 y yk1 yk2 g gk1 gk2 hg => ?_⟩
 ·exact ⟨l,hl.sub hm1⟩
 have hg0:(y,g)=iG (n0:Int) l:=hg l (hl.sub hm1 |>.sub hm2)
 have ha:ol x0 x1 x2 x3 x5 x6 L l=g:=by unfold ol;rw [if_neg (by rw [hc];simp),hLn,<-hg0]
 refine ⟨fun hne => ?_,fun g0 => ?_⟩
 ·have hi:hZ x0 x1 x2 x3 x5 x6 L l (ir x0 L)=[]:=by unfold hZ;rw [ha,if_neg hne]
  exact ⟨⟨gk1,gk2⟩,ps m2 none 0 0 g (hm1.trans hm2) ha.symm (by rw [hi];exact none_ _) (by rw [hi];rfl)⟩
 rw [g0] at hg0 ha
 obtain ⟨hjl,hev⟩:=pj hg0
 have hi:hZ x0 x1 x2 x3 x5 x6 L l (ir x0 L)=bZ (marks (ir x0 L) l l.length) 0:=by unfold hZ;rw [ha,if_pos rfl]
 obtain ⟨h64,⟨hT,hTau⟩,hjob⟩:=sa hc
 have hL2:=(hL.sub hm1).sub hm2
 have hl2:=(hl.sub hm1).sub hm2
 have kz:K.i64 0:=by constructor<;>decide
 have hb':l.length<=1000000:=by omega
 refine ⟨⟨by omega,by omega⟩,fun p2 r0 hr0 => ?_⟩
 have hr0l:r0.length=n0:=by rw [hr0,dE];simp
 have hr0g:∀j:Nat,j<L.length->r0[j]? = some (.int .i64 0):=fun j hj=>by
  rw [hr0,oW _ _ _ (by simp;omega)]
  have:j % 1=0:=by omega
  simp [this]
 refine ⟨fun q n c y v r1 r2=>((∃i:Nat,y=i/\i<=l.length/\v=di lj (l.take i)/\wx 2 (ir x0 L) l q n i r1/\lu r2 L (l.take i)),((n1:Int)-y).toNat),⟨kz,kz,0,rfl,by omega,rfl,wx.zero _ _ _ _,by omega,hr0g⟩,?_⟩
 rintro p3 n3 c3 hn3 hc3 y3 yk5 yk6 v vk1 vk2 r1 r2 ⟨i,rfl,hil,rfl,hfn,hcnt⟩
 refine ⟨fun hlt => ?_,fun hge => ?_⟩
 rotate_left
 ·intro m5 hm5 hrow
  have e:i=l.length:=by omega
  subst e
  rw [ai]
  refine ⟨⟨hn3,hc3⟩,kz,ps m5 p3 n3 c3 0 ((hm1.trans hm2).trans hm5) ha.symm ?_ ?_⟩
  ·rw [hi,<-hfn.1];exact ⟨hrow,hfn.2.2⟩
  ·rw [hi];exact hfn.2.1
 obtain ⟨x,hx,hpn,hat,hhas⟩:=hl2.at_ (i:=(i:Int)) (by omega) hlt
 rw [Int.toNat_natCast] at hx
 have hva:=fR (hev i x hx)
 have htk:=vm hx
 have again:∀(q:Option Addr) (n' c':Nat) (v:Int) (ra rb:List Value),n'<=9223372036854775807->c'<=9223372036854775807->v=di lj (l.take (i+1))->wx 2 (ir x0 L) l q n' (i+1) ra->lu rb L (l.take (i+1))->(((i:Int)+1)<=9223372036854775807/\((n'<=9223372036854775807/\c'<=9223372036854775807)/\(IntKind.i64.min<=((i:Int)+1)/\((i:Int)+1)<=IntKind.i64.max)/\(IntKind.i64.min<=v/\v<=IntKind.i64.max)/\((∃j:Nat,(i:Int)+1=j/\j<=l.length/\v=di lj (l.take j)/\wx 2 (ir x0 L) l q n' j ra/\lu rb L (l.take j))/\((n1:Int)-((i:Int)+1)).toNat<((n1:Int)-(i:Int)).toNat))):=by
  intro q n' c' v ra rb h1 h2 h3 h4 h5
  have hbd:=jA lj (l.take (i+1))
  have hlen:(l.take (i+1)).length<=1000000:=by rw [List.length_take];omega
  exact ⟨by omega,⟨h1,h2⟩,dy (by omega) (by omega),dy (by omega) (by omega),⟨i+1,by omega,by omega,h3,h4,h5⟩,by omega⟩
 have hbd:=jA lj (l.take i)
 have hlen:(l.take i).length<=1000000:=by rw [List.length_take];omega
 have hjob2:x.kind≠6->∃j:Nat,x.job=(j:Int)/\j<L.length:=fun h6=>by
  obtain ⟨j,hj⟩:=Int.eq_ofNat_of_zero_le (oA hva.1 h6)
  have:=hva.2.1 h6
  exact ⟨j,hj,by omega⟩
 have hrl:=hcnt.1
 have ends:x.kind=2\/x.kind=3->((-9223372036854775808:Int)<=(di lj (l.take i)-1)/\(∃x19:Int,ae m2 p1 ((0+((i:Int)*8))+2)=some (.int .i64 x19)/\(K.i64 x19)/\(0<=x19/\(x19<(n0:Int)/\((some p2)≠none/\((0<=(0+x19)/\(0+x19)+1<=(r2.length:Int))/\(∃x20:Int,br r2 (0+x19)=some (.int .i64 x20)/\(K.i64 x20)/\((-9223372036854775808:Int)<=(x20-1)/\(0<=x19/\(x19<(n0:Int)/\((some p2)≠none/\((0<=(0+x19)/\(0+x19)+1<=(r2.length:Int))/\∀r3:List Value,r3=aE r2 ((0+x19)).toNat [(.int .i64 (x20-1))]->lu r3 L (l.take (i+1))/\di lj (l.take i)-1=di lj (l.take (i+1)))))))))))))):=by
  intro hk
  have he:iY x=true:=by unfold iY;rcases hk with h | h<;>simp [h]
  obtain ⟨j,hj,hjl2⟩:=hjob2 (by omega)
  have hbj:=jA (jq j) (l.take i)
  have hq:jq j x=true:=by simp [jq,hj]
  have i0:br r2 (0+x.job)=some (.int .i64 (di (jq j) (l.take i))):=jx (jv (hcnt.2 j hjl2) rfl) (by omega)
  refine ⟨by omega,x.job,hat.2.2.1.1,hat.2.2.1.2,by omega,by omega,by simp,⟨by omega,by omega⟩,_,i0,dy (by omega) (by omega),by omega,by omega,by omega,by simp,⟨by omega,by omega⟩,fun r3 hr3=>⟨?_,?_⟩⟩
  ·rw [htk,hr3,show (0+x.job).toNat=j by omega]
   refine hcnt.step hj hjl2 ?_
   rw [fg,if_neg (by omega),if_pos he,if_pos hq]
  ·rw [htk,fg,if_neg (by omega),if_pos he];rfl
 refine ⟨by omega,hpn,hhas,x.kind,hat.1.1,hat.1.2,fun hk => ?_,fun hk=>⟨fun hk2 => ?_,fun hk2=>⟨fun hk3 => ?_,fun hk3 => ?_⟩⟩⟩
 ·obtain ⟨j,hj,hjl2⟩:=hjob2 (by omega)
  have hJ:L[j]? = some L[j]:=List.getElem?_eq_getElem hjl2
  generalize L[j]=J at hJ
  obtain ⟨J2,hJ2,hjat⟩:=hL2.at_ (i:=x.job) (by omega) (by omega)
  have:x.job.toNat=j:=by omega
  rw [this,hJ] at hJ2;cases hJ2
  obtain ⟨⟨q1,q2⟩,_,_,hp⟩:=hjat
  have hh:cw m2 p0 ((0+(x.job*30))+15) 1:=uO q2 15 1 (by omega)
  have hbj:=jA (jq j) (l.take i)
  have hq:jq j x=true:=by simp [jq,hj]
  have i0:br r2 (0+x.job)=some (.int .i64 (di (jq j) (l.take i))):=jx (jv (hcnt.2 j hjl2) rfl) (by omega)
  have ea:di lj (l.take i)+1=di lj (l.take (i+1)):=by rw [htk,fg,if_pos hk];rfl
  have eo:di (jq j) (l.take i)+1=di (jq j) (l.take i++[x]):=by rw [fg,if_pos hk,if_pos hq]
  have hrate:ir x0 L (l.take i) x=(decide (x0<di lj (l.take i)+1)||decide (J.pol.cap<di (jq j) (l.take i)+1)):=by
   unfold ir
   rw [hj,Int.toNat_natCast,hJ]
   simp only [hk,decide_true,Bool.true_and]
   rw [ea,eo,htk]
  refine ⟨by omega,x.job,hat.2.2.1.1,hat.2.2.1.2,by omega,by omega,by simp,⟨by omega,by omega⟩,_,i0,dy (by omega) (by omega),by omega,by omega,by omega,by simp,⟨by omega,by omega⟩,fun r3 hr3 => ?_⟩
  have hst:lu r3 L (l.take (i+1)):=by
   rw [htk,hr3,show (0+x.job).toNat=j by omega]
   exact hcnt.step hj hjl2 eo
  have hit:=fun hf=>wx.hit hfn hx hb' (f:=ir x0 L) hf
  refine ⟨fun hA => ?_,fun hA => ?_⟩
  ·obtain ⟨g1,g2⟩:=hit (by rw [hrate];simp [hA])
   exact ⟨g1,fun p4 c4 r4 hr4 h1 h2=>again _ _ _ _ _ _ (g2 p4 r4 hr4).1 h2 ea (g2 p4 r4 hr4).2 hst⟩
  ·have i1:br r3 (0+x.job)=some (.int .i64 (di (jq j) (l.take (i+1)))):=jx (jv (hst.2 j hjl2) rfl) (by omega)
   rw [htk,<-eo] at i1
   have hrl3:=hst.1
   refine ⟨by omega,by omega,by simp,⟨by omega,by omega⟩,_,i1,dy (by omega) (by omega),by omega,by omega,q1,hh,_,hp.1.1,hp.1.2,fun hB => ?_,fun hB => ?_⟩
   ·obtain ⟨g1,g2⟩:=hit (by rw [hrate];simp [hB])
    exact ⟨g1,fun p4 c4 r4 hr4 h1 h2=>again _ _ _ _ _ _ (g2 p4 r4 hr4).1 h2 ea (g2 p4 r4 hr4).2 hst⟩
   ·exact again _ _ _ _ _ _ hn3 hc3 ea (hfn.miss hx (by rw [hrate];simp;omega)) hst
 ·obtain ⟨g1,z,g2,g3,g4,g5,g6,g7,w,g8,g9,g10,g11,g12,g13,g14,g15⟩:=ends (.inl hk2)
  exact ⟨g1,z,g2,g3,g4,g5,g6,g7,w,g8,g9,g10,g11,g12,g13,g14,fun r3 hr3=>again _ _ _ _ _ _ hn3 hc3 (g15 r3 hr3).2 (hfn.miss hx (by simp [ir,hk])) (g15 r3 hr3).1⟩
 ·obtain ⟨g1,z,g2,g3,g4,g5,g6,g7,w,g8,g9,g10,g11,g12,g13,g14,g15⟩:=ends (.inr hk3)
  exact ⟨g1,z,g2,g3,g4,g5,g6,g7,w,g8,g9,g10,g11,g12,g13,g14,fun r3 hr3=>again _ _ _ _ _ _ hn3 hc3 (g15 r3 hr3).2 (hfn.miss hx (by simp [ir,hk])) (g15 r3 hr3).1⟩
 ·have he:iY x=false:=by unfold iY;simp [hk2,hk3]
  refine again _ _ _ _ _ _ hn3 hc3 ?_ (hfn.miss hx (by simp [ir,hk])) (by rw [htk];exact hcnt.skip hk he)
  rw [htk,fg,if_neg hk,he];rfl
theorem FJ:∀m,bG yh.args yh.spec fun r=>r.1 m->bg m []:=fun m a b c d s t u p n cc p1 n1 c1 h=>trivial
theorem vt:cI Tryz.prog yh:=
 ot [] [] [] rfl (aZ [vv,wu] ⟨kJ,⟨kZ,trivial⟩⟩ rfl) (bC _ [⟨(29,3),[(4,0,.i .i64)],[],[(7,41)],[2]⟩]) 1000 yh _ rfl rfl FJ (Eq.mp (show Af=_ by kernel_rfl) FK)
end
section
open As
def od (a b c d s t u:Int) (p:Option Addr) (n cc:Nat) (p1:Option Addr) (n1 c1:Nat) (m:Mem):Prop:=(dJ m ln/\n1<=1000000)/\∃L l,cM m p n L/\dx m p1 n1 l
def gC (a b c d s t u:Int) (p:Option Addr) (n cc:Nat) (p1:Option Addr) (n1 c1:Nat) (m:Mem) (q:Option Addr) (n2 c2:Nat) (z:Int):Prop:=∀L l,cM m p n L->dx m p1 n1 l->z=ol a b c d t u L l/\eg m q (aV 4 (hZ a b c d t u L l eF))/\n2=(hZ a b c d t u L l eF).length
def Ce:Sp:={ args:=[.i .i64,.i .i64,.i .i64,.i .i64,.i .u64,.i .i64,.i .i64,.sl,.sl],grp:=[some 8,none],res:=[.sl,.i .i64],rgrp:=[none,none],fn:=17,spec:=fun a0 a1 a2 a3 a4 a5 a6 a7 a8 a9 a10 a11 a12=>(od a0 a1 a2 a3 a4 a5 a6 a7 a8 a9 a10 a11 a12,gC a0 a1 a2 a3 a4 a5 a6 a7 a8 a9 a10 a11 a12) }
def Ad:Prop:=∀m:Mem,∀x0:Int,mi<=x0->x0<=ma->∀x1:Int,mi<=x1->x1<=ma->∀x2:Int,mi<=x2->x2<=ma->∀x3:Int,mi<=x3->x3<=ma->∀x4:Int,IntKind.u64.min<=x4->x4<=IntKind.u64.max->∀x5:Int,mi<=x5->x5<=ma->∀x6:Int,mi<=x6->x6<=ma->∀(p0:Option Addr) (n0 c0:Nat),n0<=9223372036854775807->c0<=9223372036854775807->∀(p1:Option Addr) (n1 c1:Nat),n1<=9223372036854775807->c1<=9223372036854775807->od x0 x1 x2 x3 x4 x5 x6 p0 n0 c0 p1 n1 c1 m->
 ((n0<=9223372036854775807/\c0<=9223372036854775807)/\fw x0 x1 x2 x3 x4 x5 x6 (p0.map fun p=>p.add 0) n0 c0 m/\∀m1:Mem,ac m m1->∀x11:Int,mi<=x11->x11<=ma->aH x0 x1 x2 x3 x4 x5 x6 (p0.map fun p=>p.add 0) n0 c0 m1 x11->
 ((x11≠0->
 ((K.i64 x11)/\gC x0 x1 x2 x3 x4 x5 x6 p0 n0 c0 p1 n1 c1 m1 none 0 0 x11))/\
 (x11=0->
 ((n1<=9223372036854775807/\c1<=9223372036854775807)/\gv (p1.map fun p=>p.add 0) n1 c1 (n0:Int) m1/\∀m2:Mem,ac m1 m2->∀x12:Int,mi<=x12->x12<=ma->∀x13:Int,mi<=x13->x13<=ma->aI (p1.map fun p=>p.add 0) n1 c1 (n0:Int) m2 x12 x13->
 ((x13≠0->
 ((K.i64 x13)/\gC x0 x1 x2 x3 x4 x5 x6 p0 n0 c0 p1 n1 c1 m2 none 0 0 x13))/\
 (x13=0->
 ((0<=(n0:Int)/\(n0:Int)<=1000000)/\∀(p2:Addr) (r0:List Value),r0=cP ((n0:Int)).toNat [(vI 0)]->(∃F3:Option Addr->Nat->Nat->Int->List Value->List Value->Prop×Nat,((K.i64 0)/\(F3 none 0 0 0 [] r0).1)/\
 ∀(p3:Option Addr) (n3 c3:Nat),n3<=9223372036854775807->c3<=9223372036854775807->∀x16:Int,mi<=x16->x16<=ma->∀r1:List Value,∀r2:List Value,(F3 p3 n3 c3 x16 r1 r2).1->
 ((x16<(n1:Int)->
 (0<=x16/\(p1≠none/\(cw m2 p1 (0+(x16*8)) 8/\(∃x17:Int,ae m2 p1 (0+(x16*8))=some (vI x17)/\(K.i64 x17)/\((x17=7->
 (∃x18:Int,ae m2 p1 ((0+(x16*8))+2)=some (vI x18)/\(K.i64 x18)/\(∃x19:Int,ae m2 p1 ((0+(x16*8))+7)=some (vI x19)/\(K.i64 x19)/\(0<=x18/\(x18<(n0:Int)/\((some p2)≠none/\((0<=(0+x18)/\(0+x18)+1<=(r2.length:Int))/\∀r3:List Value,r3=aE r2 ((0+x18)).toNat [(vI x19)]->((x16+1)<=9223372036854775807/\((n3<=9223372036854775807/\c3<=9223372036854775807)/\(mi<=(x16+1)/\(x16+1)<=ma)/\((F3 (p3.map fun p=>p.add 0) n3 c3 (x16+1) r1 r3).1/\(F3 (p3.map fun p=>p.add 0) n3 c3 (x16+1) r1 r3).2<(F3 p3 n3 c3 x16 r1 r2).2))))))))))/\
 (x17≠7->
 ((x17=8->
 (∃x18:Int,ae m2 p1 ((0+(x16*8))+2)=some (vI x18)/\(K.i64 x18)/\(∃x19:Int,ae m2 p1 ((0+(x16*8))+7)=some (vI x19)/\(K.i64 x19)/\(0<=x18/\(x18<(n0:Int)/\((some p2)≠none/\((0<=(0+x18)/\(0+x18)+1<=(r2.length:Int))/\∀r3:List Value,r3=aE r2 ((0+x18)).toNat [(vI x19)]->((x16+1)<=9223372036854775807/\((n3<=9223372036854775807/\c3<=9223372036854775807)/\(mi<=(x16+1)/\(x16+1)<=ma)/\((F3 (p3.map fun p=>p.add 0) n3 c3 (x16+1) r1 r3).1/\(F3 (p3.map fun p=>p.add 0) n3 c3 (x16+1) r1 r3).2<(F3 p3 n3 c3 x16 r1 r2).2))))))))))/\
 (x17≠8->
 ((x17=1->
 (∃x18:Int,ae m2 p1 ((0+(x16*8))+1)=some (vI x18)/\(K.i64 x18)/\(∃x19:Int,ae m2 p1 ((0+(x16*8))+2)=some (vI x19)/\(K.i64 x19)/\(0<=x19/\(x19<(n0:Int)/\((some p2)≠none/\((0<=(0+x19)/\(0+x19)+1<=(r2.length:Int))/\(∃x20:Int,br r2 (0+x19)=some (vI x20)/\(K.i64 x20)/\((x18<x20->
 ((2*((n3:Int)+1)*16<=281474976710656)/\∀(p4:Addr) (c4:Nat) (r3:List Value),r3=r1++[(vI 4),(vI x16)]->(n3:Int)+1<=(c4:Int)->c4<=9223372036854775807->((x16+1)<=9223372036854775807/\(((Int.toNat ((n3:Int)+1))<=9223372036854775807/\c4<=9223372036854775807)/\(mi<=(x16+1)/\(x16+1)<=ma)/\((F3 ((some p4).map fun p=>p.add 0) (Int.toNat ((n3:Int)+1)) c4 (x16+1) r3 r2).1/\(F3 ((some p4).map fun p=>p.add 0) (Int.toNat ((n3:Int)+1)) c4 (x16+1) r3 r2).2<(F3 p3 n3 c3 x16 r1 r2).2)))))/\
 (x20<=x18->
 ((x16+1)<=9223372036854775807/\((n3<=9223372036854775807/\c3<=9223372036854775807)/\(mi<=(x16+1)/\(x16+1)<=ma)/\((F3 (p3.map fun p=>p.add 0) n3 c3 (x16+1) r1 r2).1/\(F3 (p3.map fun p=>p.add 0) n3 c3 (x16+1) r1 r2).2<(F3 p3 n3 c3 x16 r1 r2).2)))))))))))))/\
 (x17≠1->
 ((x16+1)<=9223372036854775807/\((n3<=9223372036854775807/\c3<=9223372036854775807)/\(mi<=(x16+1)/\(x16+1)<=ma)/\((F3 (p3.map fun p=>p.add 0) n3 c3 (x16+1) r1 r2).1/\(F3 (p3.map fun p=>p.add 0) n3 c3 (x16+1) r1 r2).2<(F3 p3 n3 c3 x16 r1 r2).2))))))))))))))/\
 ((n1:Int)<=x16->
 (∀m4:Mem,ac m2 m4->bJ m4 p3 r1->((n3<=9223372036854775807/\c3<=9223372036854775807)/\(K.i64 0)/\gC x0 x1 x2 x3 x4 x5 x6 p0 n0 c0 p1 n1 c1 m4 (p3.map fun p=>p.add 0) n3 c3 0))))))))))))
theorem FH:Ad:=by
 intro m x0 _ _ x1 _ _ x2 _ _ x3 _ _ x4 _ _ x5 k5 k5' x6 k6 k6' p0 n0 c0 hn0 hc0 p1 n1 c1 hn1 hc1 ⟨⟨hgl,hb⟩,L,l,hL,hl⟩
 have hLn:=hL.1
 have hln:=hl.1
 have ps:∀(m':Mem) (q:Option Addr) (n2 c2:Nat) (z:Int),ac m m'->z=ol x0 x1 x2 x3 x5 x6 L l->eg m' q (aV 4 (hZ x0 x1 x2 x3 x5 x6 L l eF))->n2=(hZ x0 x1 x2 x3 x5 x6 L l eF).length->gC x0 x1 x2 x3 x4 x5 x6 p0 n0 c0 p1 n1 c1 m' q n2 c2 z:=by
  intro m' q n2 c2 z h e1 e2 e3 L' l' hL' hl'
  rw [<-hL.uniq h hL',<-hl.uniq h hl']
  exact ⟨e1,e2,e3⟩
 have none_:∀m':Mem,eg m' none []:=fun m'=>⟨(fun p h=>by cases h),fun _=>rfl⟩
 refine ⟨⟨hn0,hc0⟩,⟨hgl,L,by rw [ai];exact hL⟩,fun m1 hm1 e ek1 ek2 he => ?_⟩
 rw [ai] at he
 have he:e=gf x0 x1 x2 x3 x5 x6 L:=he L (hL.sub hm1)
 refine ⟨fun hne => ?_,fun h0 => ?_⟩
 ·have ha:ol x0 x1 x2 x3 x5 x6 L l=e:=by unfold ol;rw [<-he,if_pos hne]
  have hi:hZ x0 x1 x2 x3 x5 x6 L l eF=[]:=by unfold hZ;rw [ha,if_neg hne]
  exact ⟨⟨ek1,ek2⟩,ps m1 none 0 0 e hm1 ha.symm (by rw [hi];exact none_ _) (by rw [hi];rfl)⟩
 have hc:gf x0 x1 x2 x3 x5 x6 L=0:=by rw [<-he];exact h0
 refine ⟨⟨hn1,hc1⟩,?_⟩
 rw [ai]
 refine ⟨?_,fun m2 hm2 y yk1 yk2 g gk1 gk2 hg => ?_⟩
 ·exact ⟨l,hl.sub hm1⟩
 have hg0:(y,g)=iG (n0:Int) l:=hg l (hl.sub hm1 |>.sub hm2)
 have ha:ol x0 x1 x2 x3 x5 x6 L l=g:=by unfold ol;rw [if_neg (by rw [hc];simp),hLn,<-hg0]
 refine ⟨fun hne => ?_,fun g0 => ?_⟩
 ·have hi:hZ x0 x1 x2 x3 x5 x6 L l eF=[]:=by unfold hZ;rw [ha,if_neg hne]
  exact ⟨⟨gk1,gk2⟩,ps m2 none 0 0 g (hm1.trans hm2) ha.symm (by rw [hi];exact none_ _) (by rw [hi];rfl)⟩
 rw [g0] at hg0 ha
 obtain ⟨hjl,hev⟩:=pj hg0
 have hi:hZ x0 x1 x2 x3 x5 x6 L l eF=bZ (marks eF l l.length) 0:=by unfold hZ;rw [ha,if_pos rfl]
 obtain ⟨h64,⟨hT,hTau⟩,hjob⟩:=sa hc
 have hL2:=(hL.sub hm1).sub hm2
 have hl2:=(hl.sub hm1).sub hm2
 have kz:K.i64 0:=by constructor<;>decide
 have hb':l.length<=1000000:=by omega
 refine ⟨⟨by omega,by omega⟩,fun p2 r0 hr0 => ?_⟩
 have hr0l:r0.length=n0:=by rw [hr0,dE];simp
 have hr0g:∀j:Nat,j<L.length->r0[j]? = some (.int .i64 0):=fun j hj=>by
  rw [hr0,oW _ _ _ (by simp;omega)]
  have:j % 1=0:=by omega
  simp [this]
 refine ⟨fun q n c y r1 r2=>((∃i:Nat,y=i/\i<=l.length/\wx 4 eF l q n i r1/\lC r2 L (l.take i)),((n1:Int)-y).toNat),⟨kz,0,rfl,by omega,wx.zero _ _ _ _,by omega,hr0g⟩,?_⟩
 rintro p3 n3 c3 hn3 hc3 y3 yk5 yk6 r1 r2 ⟨i,rfl,hil,hfn,hcnt⟩
 refine ⟨fun hlt => ?_,fun hge => ?_⟩
 rotate_left
 ·intro m5 hm5 hrow
  have e:i=l.length:=by omega
  subst e
  rw [ai]
  refine ⟨⟨hn3,hc3⟩,kz,ps m5 p3 n3 c3 0 ((hm1.trans hm2).trans hm5) ha.symm ?_ ?_⟩
  ·rw [hi,<-hfn.1];exact ⟨hrow,hfn.2.2⟩
  ·rw [hi];exact hfn.2.1
 obtain ⟨x,hx,hpn,hat,hhas⟩:=hl2.at_ (i:=(i:Int)) (by omega) hlt
 rw [Int.toNat_natCast] at hx
 have hva:=fR (hev i x hx)
 have htk:=vm hx
 have again:∀(q:Option Addr) (n' c':Nat) (ra rb:List Value),n'<=9223372036854775807->c'<=9223372036854775807->wx 4 eF l q n' (i+1) ra->lC rb L (l.take (i+1))->(((i:Int)+1)<=9223372036854775807/\((n'<=9223372036854775807/\c'<=9223372036854775807)/\(IntKind.i64.min<=((i:Int)+1)/\((i:Int)+1)<=IntKind.i64.max)/\((∃j:Nat,(i:Int)+1=j/\j<=l.length/\wx 4 eF l q n' j ra/\lC rb L (l.take j))/\((n1:Int)-((i:Int)+1)).toNat<((n1:Int)-(i:Int)).toNat))):=by
  intro q n' c' ra rb h1 h2 h4 h5
  exact ⟨by omega,⟨h1,h2⟩,dy (by omega) (by omega),⟨i+1,by omega,by omega,h4,h5⟩,by omega⟩
 have hjob2:x.kind≠6->∃j:Nat,x.job=(j:Int)/\j<L.length:=fun h6=>by
  obtain ⟨j,hj⟩:=Int.eq_ofNat_of_zero_le (oA hva.1 h6)
  have:=hva.2.1 h6
  exact ⟨j,hj,by omega⟩
 have hrl:=hcnt.1
 have opens:x.kind=7\/x.kind=8->(∃x18:Int,ae m2 p1 ((0+((i:Int)*8))+2)=some (.int .i64 x18)/\(K.i64 x18)/\(∃x19:Int,ae m2 p1 ((0+((i:Int)*8))+7)=some (.int .i64 x19)/\(K.i64 x19)/\(0<=x18/\(x18<(n0:Int)/\((some p2)≠none/\((0<=(0+x18)/\(0+x18)+1<=(r2.length:Int))/\∀r3:List Value,r3=aE r2 ((0+x18)).toNat [.int .i64 x19]->lC r3 L (l.take (i+1)))))))):=by
  intro hk
  obtain ⟨j,hj,hjl2⟩:=hjob2 (by omega)
  refine ⟨x.job,hat.2.2.1.1,hat.2.2.1.2,x.when_,hat.2.2.2.2.2.2.2.1,hat.2.2.2.2.2.2.2.2,by omega,by omega,by simp,⟨by omega,by omega⟩,fun r3 hr3 => ?_⟩
  rw [htk,hr3,show (0+x.job).toNat=j by omega]
  exact hcnt.step hk hj hjl2
 refine ⟨by omega,hpn,hhas,x.kind,hat.1.1,hat.1.2,fun hk => ?_,fun hk=>⟨fun hk2 => ?_,fun hk2=>⟨fun hk3 => ?_,fun hk3 => ?_⟩⟩⟩
 ·obtain ⟨z,g1,g2,w,g3,g4,g5,g6,g7,g8,g9⟩:=opens (.inl hk)
  exact ⟨z,g1,g2,w,g3,g4,g5,g6,g7,g8,fun r3 hr3=>again _ _ _ _ _ hn3 hc3 (hfn.miss hx (by simp [eF,hk])) (g9 r3 hr3)⟩
 ·obtain ⟨z,g1,g2,w,g3,g4,g5,g6,g7,g8,g9⟩:=opens (.inr hk2)
  exact ⟨z,g1,g2,w,g3,g4,g5,g6,g7,g8,fun r3 hr3=>again _ _ _ _ _ hn3 hc3 (hfn.miss hx (by simp [eF,hk2])) (g9 r3 hr3)⟩
 ·obtain ⟨j,hj,hjl2⟩:=hjob2 (by omega)
  have i0:br r2 (0+x.job)=some (.int .i64 (uv j (l.take i))):=jx (jv (hcnt.2 j hjl2) rfl) (by omega)
  have hku:K.i64 (uv j (l.take i)):=Jg j _ fun y hy=>(hl.ok y (List.mem_of_mem_take hy)).2.2.2.2.2.2.2
  have hrate:eF (l.take i) x=decide (x.at_<uv j (l.take i)):=by
   unfold eF
   rw [hj];simp [hk3]
  have hst:lC r2 L (l.take (i+1)):=by rw [htk];exact hcnt.skip (by omega)
  refine ⟨x.at_,hat.2.1.1,hat.2.1.2,x.job,hat.2.2.1.1,hat.2.2.1.2,by omega,by omega,by simp,⟨by omega,by omega⟩,_,i0,hku,fun hA => ?_,fun hA => ?_⟩
  ·obtain ⟨g1,g2⟩:=wx.hit hfn hx hb' (f:=eF) (by rw [hrate];simp [hA])
   exact ⟨g1,fun p4 c4 r4 hr4 h1 h2=>again _ _ _ _ _ (g2 p4 r4 hr4).1 h2 (g2 p4 r4 hr4).2 hst⟩
  ·exact again _ _ _ _ _ hn3 hc3 (hfn.miss hx (by rw [hrate];simp;omega)) hst
 ·exact again _ _ _ _ _ hn3 hc3 (hfn.miss hx (by simp [eF,hk3])) (by rw [htk];exact hcnt.skip (by omega))
theorem FG:∀m,bG Ce.args Ce.spec fun r=>r.1 m->bg m []:=fun m a b c d s t u p n cc p1 n1 c1 h=>trivial
theorem Ae:cI Tryz.prog Ce:=
 ot [] [] [] rfl (aZ [vv,wu] ⟨kJ,⟨kZ,trivial⟩⟩ rfl) (bC _ [⟨(29,3),[],[],[(7,41)],[2]⟩]) 1000 Ce _ rfl rfl FG (Eq.mp (show Ad=_ by kernel_rfl) FH)
end
section
def v4 (a b c d:Int) (e:Int) (n:List UInt8) (x y z:Int) (m:Mem):Prop:=False
def tK (a b c d:Int) (e:Int) (n:List UInt8) (x y z:Int) (m:Mem) (u:Int) (r:Bool) (v:Int):Prop:=True
def JQ:Sp:={ args:=[.i .i64,.i .i64,.i .i64,.i .i64,.i .u64,.s,.i .i64,.i .i64,.i .i64],grp:=[some 4,none,none,none,none,none],res:=[.i .i64,.b,.i .i64],rgrp:=[none,none,none],fn:=45,spec:=fun a0 a1 a2 a3 a4 a5 a6 a7 a8=>(v4 a0 a1 a2 a3 a4 a5 a6 a7 a8,tK a0 a1 a2 a3 a4 a5 a6 a7 a8) }
theorem Jd:cI Tryz.prog JQ:=fun m w ys xs _ _ h=>by
 obtain ⟨r,h1,h2⟩:=iI (C:=fun (r:(Mem->Prop)×(Mem->mR JQ.res Prop))=>¬r.1 m) JQ.args JQ.spec ys (fun _ _ _ _ _ _ _ _ _ h=>h) h
 exact (h1 h2).elim
def oh (a b c d s t u:Int) (p:Option Addr) (n cc:Nat) (p1:Option Addr) (n1 c1:Nat) (m:Mem):Prop:=(dJ m ln/\n1<=1000000)/\∃L l,cM m p n L/\dx m p1 n1 l/\∀x∈l,x.kind=1/\x.attempt=1
def gF (a b c d s t u:Int) (p:Option Addr) (n cc:Nat) (p1:Option Addr) (n1 c1:Nat) (m:Mem) (q:Option Addr) (n2 c2:Nat) (z:Int):Prop:=∀L l,cM m p n L->dx m p1 n1 l->z=ol a b c d t u L l/\n2=0/\(q=none->c2=0)
def Cg:Sp:={ args:=[.i .i64,.i .i64,.i .i64,.i .i64,.i .u64,.i .i64,.i .i64,.sl,.sl],grp:=[some 8,none],res:=[.sl,.i .i64],rgrp:=[none,none],fn:=18,spec:=fun a0 a1 a2 a3 a4 a5 a6 a7 a8 a9 a10 a11 a12=>(oh a0 a1 a2 a3 a4 a5 a6 a7 a8 a9 a10 a11 a12,gF a0 a1 a2 a3 a4 a5 a6 a7 a8 a9 a10 a11 a12) }
def Ak:Prop:=∀m:Mem,∀x0:Int,mi<=x0->x0<=ma->∀x1:Int,mi<=x1->x1<=ma->∀x2:Int,mi<=x2->x2<=ma->∀x3:Int,mi<=x3->x3<=ma->∀x4:Int,IntKind.u64.min<=x4->x4<=IntKind.u64.max->∀x5:Int,mi<=x5->x5<=ma->∀x6:Int,mi<=x6->x6<=ma->∀(p0:Option Addr) (n0 c0:Nat),n0<=9223372036854775807->c0<=9223372036854775807->∀(p1:Option Addr) (n1 c1:Nat),n1<=9223372036854775807->c1<=9223372036854775807->oh x0 x1 x2 x3 x4 x5 x6 p0 n0 c0 p1 n1 c1 m->
 ((n0<=9223372036854775807/\c0<=9223372036854775807)/\fw x0 x1 x2 x3 x4 x5 x6 (p0.map fun p=>p.add 0) n0 c0 m/\∀m1:Mem,ac m m1->∀x11:Int,mi<=x11->x11<=ma->aH x0 x1 x2 x3 x4 x5 x6 (p0.map fun p=>p.add 0) n0 c0 m1 x11->
 ((x11≠0->
 ((K.i64 x11)/\gF x0 x1 x2 x3 x4 x5 x6 p0 n0 c0 p1 n1 c1 m1 none 0 0 x11))/\
 (x11=0->
 ((n1<=9223372036854775807/\c1<=9223372036854775807)/\gv (p1.map fun p=>p.add 0) n1 c1 (n0:Int) m1/\∀m2:Mem,ac m1 m2->∀x12:Int,mi<=x12->x12<=ma->∀x13:Int,mi<=x13->x13<=ma->aI (p1.map fun p=>p.add 0) n1 c1 (n0:Int) m2 x12 x13->
 ((x13≠0->
 ((K.i64 x13)/\gF x0 x1 x2 x3 x4 x5 x6 p0 n0 c0 p1 n1 c1 m2 none 0 0 x13))/\
 (x13=0->
 (∀k2:Nat,(∃F3:Option Addr->Nat->Nat->Int->List Value->List Value->Prop×Nat,((K.i64 0)/\(F3 none 0 0 0 [] []).1)/\
 ∀(p3:Option Addr) (n3 c3:Nat),n3<=9223372036854775807->c3<=9223372036854775807->∀x16:Int,mi<=x16->x16<=ma->∀r1:List Value,∀r2:List Value,(F3 p3 n3 c3 x16 r1 r2).1->
 ((x16<(n1:Int)->
 (0<=x16/\(p1≠none/\(cw m2 p1 (0+(x16*8)) 8/\(∃x17:Int,ae m2 p1 (0+(x16*8))=some (vI x17)/\(K.i64 x17)/\((x17=3->
 (∃x18:Int,ae m2 p1 ((0+(x16*8))+4)=some (vI x18)/\(K.i64 x18)/\(∃x19:Int,ae m2 p1 ((0+(x16*8))+1)=some (vI x19)/\(K.i64 x19)/\False /- err 0 -/)))/\
 (x17≠3->
 ((x17≠4->
 ((x17≠1->
 ((x16+1)<=9223372036854775807/\((n3<=9223372036854775807/\c3<=9223372036854775807)/\(mi<=(x16+1)/\(x16+1)<=ma)/\((F3 (p3.map fun p=>p.add 0) n3 c3 (x16+1) r1 r2).1/\(F3 (p3.map fun p=>p.add 0) n3 c3 (x16+1) r1 r2).2<(F3 p3 n3 c3 x16 r1 r2).2))))/\
 (x17=1->
 (∃x18:Int,ae m2 p1 ((0+(x16*8))+4)=some (vI x18)/\(K.i64 x18)/\((x18=1->
 ((x16+1)<=9223372036854775807/\((n3<=9223372036854775807/\c3<=9223372036854775807)/\(mi<=(x16+1)/\(x16+1)<=ma)/\((F3 (p3.map fun p=>p.add 0) n3 c3 (x16+1) r1 r2).1/\(F3 (p3.map fun p=>p.add 0) n3 c3 (x16+1) r1 r2).2<(F3 p3 n3 c3 x16 r1 r2).2))))/\
 (x18≠1->
 ((-9223372036854775808:Int)<=(x18-1)/\(∃x19:Int,ae m2 p1 ((0+(x16*8))+2)=some (vI x19)/\(K.i64 x19)/\(∃x20:Int,ae m2 p1 ((0+(x16*8))+3)=some (vI x20)/\(K.i64 x20)/\(∃f:Option (Nat×Value),bb (Value.agg (List.toArray [(vI x19),(vI x20),(vI (x18-1))])) r2 0=some f/\∀b0:Bool,b0=rq f->∃r3:List Value,oO false f [(vI 0)] r3/\(∃x21:Int,br r3 0=some (vI x21)/\(K.i64 x21)/\(0<=x19/\(x19<(n0:Int)/\(p0≠none/\(cw m2 p0 (0+(x19*30)) 30/\((b0=false->
 ((2*((n3:Int)+1)*16<=281474976710656)/\∀(p4:Addr) (c4:Nat) (r4:List Value),r4=r1++[(vI 8),(vI x16)]->(n3:Int)+1<=(c4:Int)->c4<=9223372036854775807->((x16+1)<=9223372036854775807/\(((Int.toNat ((n3:Int)+1))<=9223372036854775807/\c4<=9223372036854775807)/\(mi<=(x16+1)/\(x16+1)<=ma)/\((F3 ((some p4).map fun p=>p.add 0) (Int.toNat ((n3:Int)+1)) c4 (x16+1) r4 r2).1/\(F3 ((some p4).map fun p=>p.add 0) (Int.toNat ((n3:Int)+1)) c4 (x16+1) r4 r2).2<(F3 p3 n3 c3 x16 r1 r2).2)))))/\
 (b0=true->
 (∃x22:Int,ae m2 p0 ((0+(x19*30))+26)=some (vI x22)/\(K.i64 x22)/\((x22+1)<=9223372036854775807/\(((x22+1)<x18->
 ((2*((n3:Int)+1)*16<=281474976710656)/\∀(p4:Addr) (c4:Nat) (r4:List Value),r4=r1++[(vI 8),(vI x16)]->(n3:Int)+1<=(c4:Int)->c4<=9223372036854775807->((x16+1)<=9223372036854775807/\(((Int.toNat ((n3:Int)+1))<=9223372036854775807/\c4<=9223372036854775807)/\(mi<=(x16+1)/\(x16+1)<=ma)/\((F3 ((some p4).map fun p=>p.add 0) (Int.toNat ((n3:Int)+1)) c4 (x16+1) r4 r2).1/\(F3 ((some p4).map fun p=>p.add 0) (Int.toNat ((n3:Int)+1)) c4 (x16+1) r4 r2).2<(F3 p3 n3 c3 x16 r1 r2).2)))))/\
 (x18<=(x22+1)->
 (∃s0:List UInt8,ae m2 p0 (0+(x19*30))=some (Value.string ⟨List.toArray s0⟩)/\((-9223372036854775808:Int)<=(x18-1)/\(∃x23:Int,ae m2 p0 ((0+(x19*30))+27)=some (vI x23)/\(K.i64 x23)/\(∃x24:Int,ae m2 p0 ((0+(x19*30))+28)=some (vI x24)/\(K.i64 x24)/\(∃x25:Int,ae m2 p0 ((0+(x19*30))+29)=some (vI x25)/\(K.i64 x25)/\((-9223372036854775808:Int)<=(x18-1)/\(v4 x22 x23 x24 x25 x4 s0 x20 (x18-1) x21 m2/\∀m4:Mem,ac m2 m4->∀x26:Int,mi<=x26->x26<=ma->∀b1:Bool,∀x27:Int,mi<=x27->x27<=ma->tK x22 x23 x24 x25 x4 s0 x20 (x18-1) x21 m4 x26 b1 x27->
 False /- err 0 -/))))))))))))))))))))))))))))/\
 (x17=4->
 (∃x18:Int,ae m2 p1 ((0+(x16*8))+4)=some (vI x18)/\(K.i64 x18)/\((-9223372036854775808:Int)<=(x18-1)/\(∃x19:Int,ae m2 p1 ((0+(x16*8))+2)=some (vI x19)/\(K.i64 x19)/\(∃x20:Int,ae m2 p1 ((0+(x16*8))+3)=some (vI x20)/\(K.i64 x20)/\(∃f:Option (Nat×Value),bb (Value.agg (List.toArray [(vI x19),(vI x20),(vI (x18-1))])) r2 0=some f/\∀b0:Bool,b0=rq f->∃r3:List Value,oO false f [(vI 0)] r3/\(∃x21:Int,br r3 0=some (vI x21)/\(K.i64 x21)/\(0<=x19/\(x19<(n0:Int)/\(p0≠none/\(cw m2 p0 (0+(x19*30)) 30/\((b0=false->
 ((2*((n3:Int)+1)*16<=281474976710656)/\∀(p4:Addr) (c4:Nat) (r4:List Value),r4=r1++[(vI 8),(vI x16)]->(n3:Int)+1<=(c4:Int)->c4<=9223372036854775807->((x16+1)<=9223372036854775807/\(((Int.toNat ((n3:Int)+1))<=9223372036854775807/\c4<=9223372036854775807)/\(mi<=(x16+1)/\(x16+1)<=ma)/\((F3 ((some p4).map fun p=>p.add 0) (Int.toNat ((n3:Int)+1)) c4 (x16+1) r4 r2).1/\(F3 ((some p4).map fun p=>p.add 0) (Int.toNat ((n3:Int)+1)) c4 (x16+1) r4 r2).2<(F3 p3 n3 c3 x16 r1 r2).2)))))/\
 (b0=true->
 (∃x22:Int,ae m2 p0 ((0+(x19*30))+26)=some (vI x22)/\(K.i64 x22)/\((x22+1)<=9223372036854775807/\(((x22+1)<x18->
 ((2*((n3:Int)+1)*16<=281474976710656)/\∀(p4:Addr) (c4:Nat) (r4:List Value),r4=r1++[(vI 8),(vI x16)]->(n3:Int)+1<=(c4:Int)->c4<=9223372036854775807->((x16+1)<=9223372036854775807/\(((Int.toNat ((n3:Int)+1))<=9223372036854775807/\c4<=9223372036854775807)/\(mi<=(x16+1)/\(x16+1)<=ma)/\((F3 ((some p4).map fun p=>p.add 0) (Int.toNat ((n3:Int)+1)) c4 (x16+1) r4 r2).1/\(F3 ((some p4).map fun p=>p.add 0) (Int.toNat ((n3:Int)+1)) c4 (x16+1) r4 r2).2<(F3 p3 n3 c3 x16 r1 r2).2)))))/\
 (x18<=(x22+1)->
 (∃s0:List UInt8,ae m2 p0 (0+(x19*30))=some (Value.string ⟨List.toArray s0⟩)/\((-9223372036854775808:Int)<=(x18-1)/\(∃x23:Int,ae m2 p0 ((0+(x19*30))+27)=some (vI x23)/\(K.i64 x23)/\(∃x24:Int,ae m2 p0 ((0+(x19*30))+28)=some (vI x24)/\(K.i64 x24)/\(∃x25:Int,ae m2 p0 ((0+(x19*30))+29)=some (vI x25)/\(K.i64 x25)/\((-9223372036854775808:Int)<=(x18-1)/\(v4 x22 x23 x24 x25 x4 s0 x20 (x18-1) x21 m2/\∀m4:Mem,ac m2 m4->∀x26:Int,mi<=x26->x26<=ma->∀b1:Bool,∀x27:Int,mi<=x27->x27<=ma->tK x22 x23 x24 x25 x4 s0 x20 (x18-1) x21 m4 x26 b1 x27->
 False /- err 0 -/))))))))))))))))))))))))))))))))/\
 ((n1:Int)<=x16->
 (∀m4:Mem,ac m2 m4->bJ m4 p3 r1->((n3<=9223372036854775807/\c3<=9223372036854775807)/\(K.i64 0)/\gF x0 x1 x2 x3 x4 x5 x6 p0 n0 c0 p1 n1 c1 m4 (p3.map fun p=>p.add 0) n3 c3 0))))))))))))
theorem FU:Ak:=by
 intro m x0 _ _ x1 _ _ x2 _ _ x3 _ _ x4 _ _ x5 k5 k5' x6 k6 k6' p0 n0 c0 hn0 hc0 p1 n1 c1 hn1 hc1 ⟨⟨hgl,hb⟩,L,l,hL,hl,hall⟩
 have hLn:=hL.1
 have hln:=hl.1
 have ps:∀(m':Mem) (q:Option Addr) (c2:Nat) (z:Int),ac m m'->z=ol x0 x1 x2 x3 x5 x6 L l->(q=none->c2=0)->gF x0 x1 x2 x3 x4 x5 x6 p0 n0 c0 p1 n1 c1 m' q 0 c2 z:=by
  intro m' q c2 z h e1 e2 L' l' hL' hl'
  rw [<-hL.uniq h hL',<-hl.uniq h hl']
  exact ⟨e1,rfl,e2⟩
 refine ⟨⟨hn0,hc0⟩,⟨hgl,L,by rw [ai];exact hL⟩,fun m1 hm1 e ek1 ek2 he => ?_⟩
 rw [ai] at he
 have he:e=gf x0 x1 x2 x3 x5 x6 L:=he L (hL.sub hm1)
 refine ⟨fun hne=>⟨⟨ek1,ek2⟩,ps m1 none 0 e hm1 (by unfold ol;rw [<-he,if_pos hne]) (fun _=>rfl)⟩,fun h0 => ?_⟩
 have hc:gf x0 x1 x2 x3 x5 x6 L=0:=by rw [<-he];exact h0
 refine ⟨⟨hn1,hc1⟩,?_⟩
 rw [ai]
 refine ⟨⟨l,hl.sub hm1⟩,fun m2 hm2 y yk1 yk2 g gk1 gk2 hg => ?_⟩
 have hg0:(y,g)=iG (n0:Int) l:=hg l (hl.sub hm1 |>.sub hm2)
 have ha:ol x0 x1 x2 x3 x5 x6 L l=g:=by unfold ol;rw [if_neg (by rw [hc];simp),hLn,<-hg0]
 refine ⟨fun hne=>⟨⟨gk1,gk2⟩,ps m2 none 0 g (hm1.trans hm2) ha.symm (fun _=>rfl)⟩,fun g0 => ?_⟩
 have hl2:=(hl.sub hm1).sub hm2
 have kz:K.i64 0:=by constructor<;>decide
 intro k2
 refine ⟨fun p3 n3 c3 y r1 r2=>((∃i:Nat,y=i/\i<=l.length)/\n3=0/\(p3=none->c3=0),((n1:Int)-y).toNat),⟨kz,⟨0,rfl,Nat.zero_le _⟩,rfl,fun _=>rfl⟩,?_⟩
 rintro p3 n3 c3 hn3 hc3 y _ _ r1 r2 ⟨⟨i,rfl,hi0⟩,rfl,hp3⟩
 refine ⟨fun hlt => ?_,fun hge => ?_⟩
 ·obtain ⟨x,hx,hp,hat,hhas⟩:=hl2.at_ (i:=(i:Int)) (by omega) hlt
  rw [Int.toNat_natCast] at hx
  have hil:=(List.getElem?_eq_some_iff.1 hx).1
  obtain ⟨q1,q2,q3,q4,q5,q6,q7,q8⟩:=hat
  obtain ⟨hk,hat⟩:=hall x (List.mem_of_getElem? hx)
  refine ⟨by omega,hp,hhas,x.kind,q1.1,q1.2,fun h3=>by omega,fun h3=>⟨fun h4=>⟨fun h1=>by omega,fun h1 => ?_⟩,fun h4=>by omega⟩⟩
  refine ⟨x.attempt,q5.1,q5.2,fun ha1 => ?_,fun ha1=>by omega⟩
  rw [ai]
  exact ⟨by omega,⟨hn3,hc3⟩,dy (by omega) (by omega),⟨⟨i+1,by omega,by omega⟩,rfl,hp3⟩,by simp only;omega⟩
 ·intro m4 hm4 _
  refine ⟨⟨hn3,hc3⟩,kz,?_⟩
  rw [ai]
  exact ps m4 p3 c3 0 ((hm1.trans hm2).trans hm4) (by rw [ha,g0]) hp3
theorem FT:∀m,bG Cg.args Cg.spec fun r=>r.1 m->bg m []:=fun m a b c d s t u p n cc p1 n1 c1 h=>trivial
theorem Al:cI Tryz.prog Cg:=
 ot [] [] [] rfl (aZ [vv,wu,JQ] ⟨kJ,⟨kZ,⟨Jd,trivial⟩⟩⟩ rfl) (ph _ [⟨(29,3),[],[],[(7,41)],[2]⟩] [101]) 30 Cg _ rfl rfl FT (Eq.mp (show Ak=_ by kernel_rfl) FU)
end
end Go.Proofs.YtjabmipkllkfbaaGreatDoor.Vc
