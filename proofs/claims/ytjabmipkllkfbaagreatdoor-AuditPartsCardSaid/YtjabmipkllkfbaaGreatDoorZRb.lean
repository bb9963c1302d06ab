/-
  Contracts, by their trees.
-/
import Derived.Test.YtjabmipkllkfbaaGreatDoorZR
import Derived.Test.YtjabmipkllkfbaaGreatDoorZQ
set_option linter.unusedVariables false
set_option linter.unusedSimpArgs false
namespace Go.Proofs.YtjabmipkllkfbaaGreatDoor.Vc
section
def uq (D:Int) (p:List As.Ev) (x:As.Ev):Bool:=decide (x.at_<1000)||decide (1000+D<x.at_)
def yF (a b c d t u:Int) (J:cr) (l:List As.Ev) (D:Int) (M:Bool):List Value:=
 gB (aV 1 (bZ (marks (uq D) l l.length) 0)) (aV 2 (hZ a b c d t u [J] l (ir a [J]))) (aV 3 (hZ a b c d t u [J] l (dz t u [J]))) (aV 4 (hZ a b c d t u [J] l eF))
  (aV 5 (bZ (marks (xY J 1000 (1000+D)) l l.length) 0)) (aV 6 (bZ (marks mW l l.length) 0)) (if M=true then [.int .i64 7,.int .i64 0] else []) []
def vu (a b c d s t u:Int) (p:Option Addr) (n cc:Nat) (y:Int) (p1:Option Addr) (n1 c1:Nat) (p2:Option Addr) (n2 c2:Nat) (m:Mem):Prop:=((dJ m ln/\dJ m oH)/\n=1/\y=1000/\n1=1/\n2<=1000)/\
 ∃D J l,kG m p1 D/\(1<=D/\D<=256)/\cM m p 1 [J]/\dx m p2 n2 l/\rN J/\gf a b c d t u [J]=0/\(∃i:Int,(i,(0:Int))=iG 1 l)/\∀x∈l,x.kind=1/\x.attempt=1
def dQ (a b c d s t u:Int) (p:Option Addr) (n cc:Nat) (y:Int) (p1:Option Addr) (n1 c1:Nat) (p2:Option Addr) (n2 c2:Nat) (m:Mem) (q:Option Addr) (n3 c3:Nat) (e:Int):Prop:=
 ∀D J l,kG m p1 D->cM m p 1 [J]->dx m p2 n2 l->e=0/\∃M:Bool,(M=true↔qU J 1000 (1000+D) l)/\eg m q (yF a b c d t u J l D M)/\(yF a b c d t u J l D M).length=n3*2
theorem mo {a b c d t u:Int} {L:List cr} {l:List As.Ev} {f:List As.Ev->As.Ev->Bool}:(hZ a b c d t u L l f).length<=l.length:=by
 unfold hZ
 split
 ·exact bv f l l.length
 ·simp
def Jy:Sp:={ args:=[.i .i64,.i .i64,.i .i64,.i .i64,.i .u64,.i .i64,.i .i64,.sl,.i .i64,.sl,.sl],grp:=[some 8,none,none,none],res:=[.sl,.i .i64],rgrp:=[none,none],fn:=14,spec:=fun a0 a1 a2 a3 a4 a5 a6 a7 a8 a9 a10 a11 a12 a13 a14 a15 a16=>(vu a0 a1 a2 a3 a4 a5 a6 a7 a8 a9 a10 a11 a12 a13 a14 a15 a16,dQ a0 a1 a2 a3 a4 a5 a6 a7 a8 a9 a10 a11 a12 a13 a14 a15 a16) }
set_option maxRecDepth 20000 in
def DJ:Prop:=∀m:Mem,∀x0:Int,mi<=x0->x0<=ma->∀x1:Int,mi<=x1->x1<=ma->∀x2:Int,mi<=x2->x2<=ma->∀x3:Int,mi<=x3->x3<=ma->∀x4:Int,IntKind.u64.min<=x4->x4<=IntKind.u64.max->∀x5:Int,mi<=x5->x5<=ma->∀x6:Int,mi<=x6->x6<=ma->∀(p0:Option Addr) (n0 c0:Nat),n0<=9223372036854775807->c0<=9223372036854775807->∀x9:Int,mi<=x9->x9<=ma->∀(p1:Option Addr) (n1 c1:Nat),n1<=9223372036854775807->c1<=9223372036854775807->∀(p2:Option Addr) (n2 c2:Nat),n2<=9223372036854775807->c2<=9223372036854775807->vu x0 x1 x2 x3 x4 x5 x6 p0 n0 c0 x9 p1 n1 c1 p2 n2 c2 m->
 ((n0:Int)=1/\(x9=1000/\((n1:Int)=1/\(∃x14:Int,ae m p1 0=some (vI x14)/\(K.i64 x14)/\(∃x15:Int,ae m p1 1=some (vI x15)/\(K.i64 x15)/\(∃x16:Int,ae m p1 2=some (vI x16)/\(K.i64 x16)/\(∃x17:Int,ae m p1 3=some (vI x17)/\(K.i64 x17)/\(ae m p1 4=some (Value.bool false)/\(ae m p1 5=some (Value.string ⟨List.toArray ([]:List UInt8)⟩)/\(x14=1/\(1<=x15/\(x15<=256/\(x16=0/\(x17=0/\((1<=9223372036854775807/\c0<=9223372036854775807)/\fw x0 x1 x2 x3 x4 x5 x6 (p0.map fun p=>p.add 0) 1 c0 m/\∀m1:Mem,ac m m1->∀x18:Int,mi<=x18->x18<=ma->aH x0 x1 x2 x3 x4 x5 x6 (p0.map fun p=>p.add 0) 1 c0 m1 x18->
 ((x18≠0->
 ((K.i64 x18)/\dQ x0 x1 x2 x3 x4 x5 x6 p0 n0 c0 x9 p1 n1 c1 p2 n2 c2 m1 none 0 0 x18))/\
 (x18=0->
 (p1≠none/\(cw m1 p1 0 6/\((n2<=9223372036854775807/\c2<=9223372036854775807)/\gv (p2.map fun p=>p.add 0) n2 c2 1 m1/\∀m2:Mem,ac m1 m2->∀x19:Int,mi<=x19->x19<=ma->∀x20:Int,mi<=x20->x20<=ma->aI (p2.map fun p=>p.add 0) n2 c2 1 m2 x19 x20->
 ((x20≠0->
 (∀(p3:Addr) (m3:Mem),ac m2 m3->bJ m3 (some p3) [(vI 1),(vI x19)]->((1<=9223372036854775807/\1<=9223372036854775807)/\(K.i64 0)/\dQ x0 x1 x2 x3 x4 x5 x6 p0 n0 c0 x9 p1 n1 c1 p2 n2 c2 m3 ((some p3).map fun p=>p.add 0) 1 1 0)))/\
 (x20=0->
 (∃F3:Option Addr->Nat->Nat->Int->List Value->Prop×Nat,((K.i64 0)/\(F3 none 0 0 0 []).1)/\
 ∀(p3:Option Addr) (n3 c3:Nat),n3<=9223372036854775807->c3<=9223372036854775807->∀x23:Int,mi<=x23->x23<=ma->∀r0:List Value,(F3 p3 n3 c3 x23 r0).1->
 ((x23<(n2:Int)->
 (0<=x23/\(p2≠none/\(cw m2 p2 (0+(x23*8)) 8/\(∃x24:Int,ae m2 p2 ((0+(x23*8))+1)=some (vI x24)/\(K.i64 x24)/\((x24<1000->
 ((2*((n3:Int)+1)*16<=281474976710656)/\∀(p4:Addr) (c4:Nat) (r1:List Value),r1=r0++[(vI 1),(vI x23)]->(n3:Int)+1<=(c4:Int)->c4<=9223372036854775807->((x23+1)<=9223372036854775807/\(((Int.toNat ((n3:Int)+1))<=9223372036854775807/\c4<=9223372036854775807)/\(mi<=(x23+1)/\(x23+1)<=ma)/\((F3 ((some p4).map fun p=>p.add 0) (Int.toNat ((n3:Int)+1)) c4 (x23+1) r1).1/\(F3 ((some p4).map fun p=>p.add 0) (Int.toNat ((n3:Int)+1)) c4 (x23+1) r1).2<(F3 p3 n3 c3 x23 r0).2)))))/\
 (1000<=x24->
 (((1000+x15)<x24->
 ((2*((n3:Int)+1)*16<=281474976710656)/\∀(p4:Addr) (c4:Nat) (r1:List Value),r1=r0++[(vI 1),(vI x23)]->(n3:Int)+1<=(c4:Int)->c4<=9223372036854775807->((x23+1)<=9223372036854775807/\(((Int.toNat ((n3:Int)+1))<=9223372036854775807/\c4<=9223372036854775807)/\(mi<=(x23+1)/\(x23+1)<=ma)/\((F3 ((some p4).map fun p=>p.add 0) (Int.toNat ((n3:Int)+1)) c4 (x23+1) r1).1/\(F3 ((some p4).map fun p=>p.add 0) (Int.toNat ((n3:Int)+1)) c4 (x23+1) r1).2<(F3 p3 n3 c3 x23 r0).2)))))/\
 (x24<=(1000+x15)->
 ((x23+1)<=9223372036854775807/\((n3<=9223372036854775807/\c3<=9223372036854775807)/\(mi<=(x23+1)/\(x23+1)<=ma)/\((F3 (p3.map fun p=>p.add 0) n3 c3 (x23+1) r0).1/\(F3 (p3.map fun p=>p.add 0) n3 c3 (x23+1) r0).2<(F3 p3 n3 c3 x23 r0).2))))))))))))/\
 ((n2:Int)<=x23->
 ((1<=9223372036854775807/\c0<=9223372036854775807)/\(n2<=9223372036854775807/\c2<=9223372036854775807)/\lD x0 x1 x2 x3 x4 x5 x6 (p0.map fun p=>p.add 0) 1 c0 (p2.map fun p=>p.add 0) n2 c2 m2/\∀m4:Mem,ac m2 m4->∀(p4:Option Addr) (n4 c4:Nat),n4<=9223372036854775807->c4<=9223372036854775807->∀x26:Int,mi<=x26->x26<=ma->fN x0 x1 x2 x3 x4 x5 x6 (p0.map fun p=>p.add 0) 1 c0 (p2.map fun p=>p.add 0) n2 c2 m4 p4 n4 c4 x26->
 ((1<=9223372036854775807/\c0<=9223372036854775807)/\(n2<=9223372036854775807/\c2<=9223372036854775807)/\oe x0 x1 x2 x3 x4 x5 x6 (p0.map fun p=>p.add 0) 1 c0 (p2.map fun p=>p.add 0) n2 c2 m4/\∀m5:Mem,ac m4 m5->∀(p5:Option Addr) (n5 c5:Nat),n5<=9223372036854775807->c5<=9223372036854775807->∀x29:Int,mi<=x29->x29<=ma->gD x0 x1 x2 x3 x4 x5 x6 (p0.map fun p=>p.add 0) 1 c0 (p2.map fun p=>p.add 0) n2 c2 m5 p5 n5 c5 x29->
 ((1<=9223372036854775807/\c0<=9223372036854775807)/\(n2<=9223372036854775807/\c2<=9223372036854775807)/\od x0 x1 x2 x3 x4 x5 x6 (p0.map fun p=>p.add 0) 1 c0 (p2.map fun p=>p.add 0) n2 c2 m5/\∀m6:Mem,ac m5 m6->∀(p6:Option Addr) (n6 c6:Nat),n6<=9223372036854775807->c6<=9223372036854775807->∀x32:Int,mi<=x32->x32<=ma->gC x0 x1 x2 x3 x4 x5 x6 (p0.map fun p=>p.add 0) 1 c0 (p2.map fun p=>p.add 0) n2 c2 m6 p6 n6 c6 x32->
 ((1<=9223372036854775807/\c0<=9223372036854775807)/\(n2<=9223372036854775807/\c2<=9223372036854775807)/\oh x0 x1 x2 x3 x4 x5 x6 (p0.map fun p=>p.add 0) 1 c0 (p2.map fun p=>p.add 0) n2 c2 m6/\∀m7:Mem,ac m6 m7->∀(p7:Option Addr) (n7 c7:Nat),n7<=9223372036854775807->c7<=9223372036854775807->∀x35:Int,mi<=x35->x35<=ma->gF x0 x1 x2 x3 x4 x5 x6 (p0.map fun p=>p.add 0) 1 c0 (p2.map fun p=>p.add 0) n2 c2 m7 p7 n7 c7 x35->
 (∃F8:Option Addr->Nat->Nat->Int->List Value->Prop×Nat,((K.i64 0)/\(F8 none 0 0 0 []).1)/\
 ∀(p8:Option Addr) (n8 c8:Nat),n8<=9223372036854775807->c8<=9223372036854775807->∀x38:Int,mi<=x38->x38<=ma->∀r1:List Value,(F8 p8 n8 c8 x38 r1).1->
 ((x38<(n2:Int)->
 (0<=x38/\(p2≠none/\(cw m7 p2 (0+(x38*8)) 8/\(∃x39:Int,ae m7 p2 (0+(x38*8))=some (vI x39)/\(K.i64 x39)/\((x39=1->
 (CU F8 p0 p2 1000 (1000+x15) m7 p8 n8 c8 x38 r1))/\
 (x39≠1->
 ((x39≠5->
 ((x38+1)<=9223372036854775807/\((n8<=9223372036854775807/\c8<=9223372036854775807)/\(mi<=(x38+1)/\(x38+1)<=ma)/\((F8 (p8.map fun p=>p.add 0) n8 c8 (x38+1) r1).1/\(F8 (p8.map fun p=>p.add 0) n8 c8 (x38+1) r1).2<(F8 p8 n8 c8 x38 r1).2))))/\
 (x39=5->
 (CU F8 p0 p2 1000 (1000+x15) m7 p8 n8 c8 x38 r1))))))))))/\
 ((n2:Int)<=x38->
 (∀k9:Nat,(∃F9:Option Addr->Nat->Nat->Int->List Value->List Value->Prop×Nat,((K.i64 0)/\(F9 none 0 0 0 [] []).1)/\
 ∀(p10:Option Addr) (n10 gJ:Nat),n10<=9223372036854775807->gJ<=9223372036854775807->∀x41:Int,mi<=x41->x41<=ma->∀r3:List Value,∀r4:List Value,(F9 p10 n10 gJ x41 r3 r4).1->
 ((x41<(n2:Int)->
 (HN F9 p2 m7 x41 p10 n10 gJ r3 r4))/\
 ((n2:Int)<=x41->
 (p0≠none/\(cw m7 p0 0 30/\(∃s0:List UInt8,ae m7 p0 0=some (Value.string ⟨List.toArray s0⟩)/\(∃x42:Int,ae m7 p0 17=some (vI x42)/\(K.i64 x42)/\(oJ s0 x4 x42 m7/\∀m10:Mem,ac m7 m10->∀x43:Int,mi<=x43->x43<=ma->∀x44:Int,mi<=x44->x44<=ma->jW s0 x4 x42 m10 x43 x44->
 (∃F11:Int->Prop×Nat,((K.i64 1000)/\(F11 1000).1)/\
 ∀x45:Int,mi<=x45->x45<=ma->(F11 x45).1->
 (∃x46:Int,ae m10 p0 1=some (vI x46)/\(K.i64 x46)/\(∃x47:Int,ae m10 p0 2=some (Value.int IntKind.u64 x47)/\(K.u64 x47)/\(∃x48:Int,ae m10 p0 3=some (Value.int IntKind.u64 x48)/\(K.u64 x48)/\(∃x49:Int,ae m10 p0 4=some (Value.int IntKind.u64 x49)/\(K.u64 x49)/\(∃x50:Int,ae m10 p0 5=some (Value.int IntKind.u64 x50)/\(K.u64 x50)/\(∃x51:Int,ae m10 p0 6=some (Value.int IntKind.u64 x51)/\(K.u64 x51)/\(∃x52:Int,ae m10 p0 7=some (Value.int IntKind.u64 x52)/\(K.u64 x52)/\(∃b0:Bool,ae m10 p0 8=some (Value.bool b0)/\(∃b1:Bool,ae m10 p0 9=some (Value.bool b1)/\(∃x53:Int,ae m10 p0 10=some (vI x53)/\(K.i64 x53)/\(∃x54:Int,ae m10 p0 11=some (vI x54)/\(K.i64 x54)/\(∃x55:Int,ae m10 p0 12=some (vI x55)/\(K.i64 x55)/\(∃x56:Int,ae m10 p0 13=some (vI x56)/\(K.i64 x56)/\(∃(p11:Option Addr) (n11 Aq:Nat),ae m10 p0 14=some (Value.slice p11 n11 Aq)/\(n11<=Aq/\Aq<=9223372036854775807)/\((n11<=9223372036854775807/\Aq<=9223372036854775807)/\oS x46 x47 x48 x49 x50 x51 x52 b0 b1 x53 x54 x55 x56 (p11.map fun p=>p.add 0) n11 Aq x45 m10/\∀m12:Mem,ac m10 m12->∀x59:Int,mi<=x59->x59<=ma->∀b2:Bool,∀x60:Int,mi<=x60->x60<=ma->bV x46 x47 x48 x49 x50 x51 x52 b0 b1 x53 x54 x55 x56 (p11.map fun p=>p.add 0) n11 Aq x45 m12 x59 b2 x60->
 ((x60≠0->
 (Jr m12 r0 p3 n3 c3 p4 n4 c4 p5 n5 c5 p6 n6 c6 p7 n7 c7 r1 p8 n8 c8 r3 p10 n10 gJ (fun m q n c=>dQ x0 x1 x2 x3 x4 x5 x6 p0 n0 c0 x9 p1 n1 c1 p2 n2 c2 m q n c 0)))/\
 (x60=0->
 ((b2=false->
 (Jr m12 r0 p3 n3 c3 p4 n4 c4 p5 n5 c5 p6 n6 c6 p7 n7 c7 r1 p8 n8 c8 r3 p10 n10 gJ (fun m q n c=>dQ x0 x1 x2 x3 x4 x5 x6 p0 n0 c0 x9 p1 n1 c1 p2 n2 c2 m q n c 0)))/\
 (b2=true->
 (((1000+x15)<x59->
 (Jr m12 r0 p3 n3 c3 p4 n4 c4 p5 n5 c5 p6 n6 c6 p7 n7 c7 r1 p8 n8 c8 r3 p10 n10 gJ (fun m q n c=>dQ x0 x1 x2 x3 x4 x5 x6 p0 n0 c0 x9 p1 n1 c1 p2 n2 c2 m q n c 0)))/\
 (x59<=(1000+x15)->
 ((x59<(1000+x15)->
 (wL F11 p0 1000 (1000+x15) x43 x45 x59 m12 r4 (Jq m12 r0 p3 n3 c3 p4 n4 c4 p5 n5 c5 p6 n6 c6 p7 n7 c7 r1 p8 n8 c8 r3 p10 n10 gJ (fun m q n c=>dQ x0 x1 x2 x3 x4 x5 x6 p0 n0 c0 x9 p1 n1 c1 p2 n2 c2 m q n c 0))))/\
 ((1000+x15)<=x59->
 (wL F11 p0 1000 (1000+x15) x43 x45 x59 m12 r4 (Jq m12 r0 p3 n3 c3 p4 n4 c4 p5 n5 c5 p6 n6 c6 p7 n7 c7 r1 p8 n8 c8 r3 p10 n10 gJ (fun m q n c=>dQ x0 x1 x2 x3 x4 x5 x6 p0 n0 c0 x9 p1 n1 c1 p2 n2 c2 m q n c 0))))))))))))))))))))))))))))))))))))))))))))))))))))))))))))))))))))
set_option maxRecDepth 20000 in
set_option maxHeartbeats 4000000 in
theorem Ip:DJ:=by
 intro m x0 _ _ x1 _ _ x2 _ _ x3 _ _ x4 _ _ x5 _ _ x6 _ _ p0 n0 c0 hn0 hc0 x9 h91 h92 p1 n1 c1 hn1 hc1 p2 n2 c2 hn2 hc2 hpre
 obtain ⟨⟨⟨hgs,hgm⟩,hone,hy,hops,hb1⟩,D,J,l,hT,⟨hD1,hD2⟩,hJ,hl,hev,hcf,⟨ti,htr⟩,hall⟩:=hpre
 subst hone;subst hops
 have b2:IntKind.i64.min = -9223372036854775808:=rfl
 have b3:IntKind.i64.max=9223372036854775807:=rfl
 have dy:∀v:Int,-9223372036854775808<=v->v<=9223372036854775807->K.i64 v:=fun v h1 h2=>⟨(by rw [b2];omega:IntKind.i64.min<=_),(by rw [b3];omega:_<=IntKind.i64.max)⟩
 have kz:K.i64 0:=dy 0 (by omega) (by omega)
 have hln:=hl.1
 obtain ⟨hjl,hevs⟩:=pj htr
 obtain ⟨_,_,hjob⟩:=sa hcf
 have hauE:ol x0 x1 x2 x3 x5 x6 [J] l=0:=by
  unfold ol;rw [if_neg (by rw [hcf];simp)];exact ((Prod.mk.inj htr).2).symm
 obtain ⟨t0,t1,t2,t3,t4,t5⟩:=hT
 refine ⟨rfl,hy,rfl,1,t0.1,t0.2,D,t1.1,t1.2,0,t2.1,t2.2,0,t3.1,t3.2,t4,t5,rfl,hD1,hD2,rfl,rfl,⟨by omega,hc0⟩,⟨hgs,[J],by rw [ai];exact hJ⟩,fun m1 hm1 x18 _ _ hc1' => ?_⟩
 have hT:kG m p1 D:=⟨t0,t1,t2,t3,t4,t5⟩
 rw [ai] at hc1'
 have e18:x18=0:=(hc1' [J] (hJ.sub hm1)).trans hcf
 refine ⟨fun h=>absurd e18 h,fun _=>⟨(hT.sub hm1).has.1,(hT.sub hm1).has.2,⟨hn2,hc2⟩,⟨l,by rw [ai];exact hl.sub hm1⟩,fun m2 hm2 x19 _ _ x20 _ _ ht => ?_⟩⟩
 rw [ai] at ht
 have hl2:=(hl.sub hm1).sub hm2
 have hJ2:=(hJ.sub hm1).sub hm2
 have e20:x20=0:=by
  have:=(ht l hl2).trans htr.symm
  exact (Prod.mk.inj this).2
 refine ⟨fun h=>absurd e20 h,fun _=>⟨pH (uq D) l n2 1,⟨kz,0,rfl,by omega,rfl,rfl,fun _=>rfl⟩,?_⟩⟩
 intro p3 n3 c3 hn3 hc3 x23 _ _ r0 hinv
 obtain ⟨i,rfl,hi,hr0,hn3e,hp3⟩:=hinv
 refine ⟨fun hlt => ?_,fun hge => ?_⟩
 ·obtain ⟨x,hx,hp,hat,hhas⟩:=hl2.at_ (i:=(i:Int)) (by omega) hlt
  rw [Int.toNat_natCast] at hx
  obtain ⟨q1,q2,_⟩:=hat
  have hw:uq D (l.take i) x=(decide (x.at_<1000)||decide (1000+D<x.at_)):=rfl
  refine ⟨by omega,hp,hhas,x.at_,q2.1,q2.2,fun h=>AA hx hln hb1 (by rw [hw,decide_eq_true h];rfl) hr0 hn3e,fun h=>⟨fun h'=>AA hx hln hb1 (by rw [hw,decide_eq_true h'];simp) hr0 hn3e,fun h'=>wH hx hln hb1 (by rw [hw,decide_eq_false (show ¬x.at_<1000 by omega),decide_eq_false (show ¬1000+D<x.at_ by omega)];rfl) hr0 hn3e hn3 hc3 hp3⟩⟩
 have hii:i=l.length:=by omega
 subst hii
 have hgs2:=(hgs.sub hm1).sub hm2
 have hgm2:=(hgm.sub hm1).sub hm2
 refine ⟨⟨by omega,hc0⟩,⟨hn2,hc2⟩,⟨⟨hgs2,by omega⟩,[J],l,by rw [ai];exact hJ2,by rw [ai];exact hl2⟩,fun m4 hm4 p4 n4 c4 hn4 hc4 x26 _ _ hcap => ?_⟩
 rw [ai,ai] at hcap
 have hl4:=hl2.sub hm4
 have hJ4:=hJ2.sub hm4
 obtain ⟨_,hcapR,hcapN⟩:=hcap [J] l hJ4 hl4
 refine ⟨⟨by omega,hc0⟩,⟨hn2,hc2⟩,⟨⟨hgs2.sub hm4,by omega⟩,[J],l,by rw [ai];exact hJ4,by rw [ai];exact hl4⟩,fun m5 hm5 p5 n5 c5 hn5 hc5 x29 _ _ hrat => ?_⟩
 rw [ai,ai] at hrat
 have hl5:=hl4.sub hm5
 have hJ5:=hJ4.sub hm5
 obtain ⟨_,hratR,hratN⟩:=hrat [J] l hJ5 hl5
 refine ⟨⟨by omega,hc0⟩,⟨hn2,hc2⟩,⟨⟨(hgs2.sub hm4).sub hm5,by omega⟩,[J],l,by rw [ai];exact hJ5,by rw [ai];exact hl5⟩,fun m6 hm6 p6 n6 c6 hn6 hc6 x32 _ _ hbrk => ?_⟩
 rw [ai,ai] at hbrk
 have hl6:=hl5.sub hm6
 have hJ6:=hJ5.sub hm6
 obtain ⟨_,hbrkR,hbrkN⟩:=hbrk [J] l hJ6 hl6
 refine ⟨⟨by omega,hc0⟩,⟨hn2,hc2⟩,⟨⟨((hgs2.sub hm4).sub hm5).sub hm6,by omega⟩,[J],l,by rw [ai];exact hJ6,by rw [ai];exact hl6,hall⟩,fun m7 hm7 p7 n7 c7 hn7 hc7 x35 _ _ hret => ?_⟩
 rw [ai,ai] at hret
 have hl7:=hl6.sub hm7
 have hJ7:=hJ6.sub hm7
 obtain ⟨_,hretN,_⟩:=hret [J] l hJ7 hl7
 subst hretN
 have hgm7:=(((hgm2.sub hm4).sub hm5).sub hm6).sub hm7
 refine ⟨pH (xY J 1000 (1000+D)) l n2 5,⟨kz,0,rfl,by omega,rfl,rfl,fun _=>rfl⟩,?_⟩
 intro p8 n8 c8 hn8 hc8 x38 _ _ r1 hinv
 obtain ⟨i,rfl,hi,hr1,hn8e,hp8⟩:=hinv
 refine ⟨fun hlt => ?_,fun hge => ?_⟩
 ·obtain ⟨x,hx,hp,hat,hhas⟩:=hl7.at_ (i:=(i:Int)) (by omega) hlt
  rw [Int.toNat_natCast] at hx
  obtain ⟨hvP,hvj,_⟩:=fR (hevs i x hx)
  have hj:x.kind≠6->x.job=0:=fun h=>by
   have h1:=oA hvP h
   have h2:=hvj h
   omega
  refine ⟨by omega,hp,hhas,x.kind,hat.1.1,hat.1.2,fun hk => ?_,fun hk=>⟨fun hk5 => ?_,fun hk5 => ?_⟩⟩
  ·exact ru hJ7 hev hx hat (.inl hk) (hj (by omega)) (ri hvP (.inl hk)) hln hb1 hr1 hn8e hn8 hc8 hp8
  ·refine wH hx hln hb1 ?_ hr1 hn8e hn8 hc8 hp8
   unfold xY
   rw [decide_eq_false hk,decide_eq_false hk5];rfl
  ·exact ru hJ7 hev hx hat (.inr hk5) (hj (by omega)) (ri hvP (.inr hk5)) hln hb1 hr1 hn8e hn8 hc8 hp8
 have hii:i=l.length:=by omega
 subst hii
 intro k9
 refine ⟨sr mW l n2 6,⟨kz,0,rfl,by omega,rfl,rfl,rfl,fun _=>rfl⟩,?_⟩
 intro p10 n10 gJ hn10 hc10 x41 _ _ r3 r4 hinv
 obtain ⟨i,rfl,hi,hr3,hn10e,hr4,hp10⟩:=hinv
 refine ⟨fun hlt => ?_,fun hge => ?_⟩
 ·obtain ⟨x,hx,hp,hat,hhas⟩:=hl7.at_ (i:=(i:Int)) (by omega) hlt
  rw [Int.toNat_natCast] at hx
  exact B7 hx hp hat hhas hln hb1 hr3 hn10e hn10 hc10 hr4 hp10
 have hii:i=l.length:=by omega
 subst hii
 rw [List.take_length] at hr4
 obtain ⟨J',hJ',⟨hp0,hh⟩,hnm,hpl,hpo⟩:=hJ7.at_ (i:=0) (by omega) (by omega)
 have eJ:J'=J:=by simpa using hJ'.symm
 subst eJ
 have hsp:=hpo.2.2.1
 rw [hev.splay] at hsp
 refine ⟨hp0,(by simpa using hh),J'.name,aw hnm.1 (by omega),0,aw hsp.1 (by omega),hsp.2,⟨hgm7,rfl,uG hcf J' (List.mem_singleton.2 rfl)⟩,fun m10 hm10 x43 _ _ x44 _ _ hspl => ?_⟩
 obtain ⟨rfl,_⟩:=hspl
 have hJ10:=hJ7.sub hm10
 have hnum:=hev.num
 have bO:=bv (uq D) l l.length
 have bW:=bv (xY J' 1000 (1000+D)) l l.length
 have bT:=bv mW l l.length
 refine ⟨Cw 1000 (1000+D) (xh J' (1000+D) l),⟨dy 1000 (by omega) (by omega),by omega,by omega,fun d h1 h2=>by omega⟩,?_⟩
 intro t _ _ hg
 obtain ⟨ht0,ht1,htn⟩:=hg
 obtain ⟨J2,hJ2',⟨hp02,hh2⟩,hnm2,hpl2,hpo2⟩:=hJ10.at_ (i:=0) (by omega) (by omega)
 have eJ:J2=J':=by simpa using hJ2'.symm
 subst eJ
 obtain ⟨a1,a2,a3,a4,a5,a6,a7,a8,a9,a10,a11,a12,a13,q,n,c,s1,s2,s3⟩:=hpl2
 have hsn:n=0:=by rw [<-s3.1,hev.skip];rfl
 refine ⟨J2.k,aw a1.1 (by omega),a1.2,J2.a,aw a2.1 (by omega),a2.2,J2.b,aw a3.1 (by omega),a3.2,J2.c,aw a4.1 (by omega),a4.2,J2.d,aw a5.1 (by omega),a5.2,J2.e,aw a6.1 (by omega),a6.2,J2.f,aw a7.1 (by omega),a7.2,J2.x,aw a8 (by omega),J2.y,aw a9 (by omega),J2.z,aw a10.1 (by omega),a10.2,J2.s,aw a11.1 (by omega),a11.2,J2.t,aw a12.1 (by omega),a12.2,J2.u,aw a13.1 (by omega),a13.2,q,n,c,aw s1 (by omega),s2,⟨by omega,s2.2⟩,⟨tD hev hsn,hev.s.1,hev.s.2,hev.t.1,hev.t.2,hev.u.1,hev.u.2,by omega,by omega⟩,fun m12 hm12 u hu1 hu2 b2' x60 _ _ hp => ?_⟩
 obtain ⟨rfl,hnx⟩:=hp
 have hdead:=(hpo2.2.2.2.1.sub hm12)
 -- the ends
 have up7:ac m m7:=((((hm1.trans hm2).trans hm4).trans hm5).trans hm6).trans hm7
 have up4:ac m4 m12:=(((hm5.trans hm6).trans hm7).trans hm10).trans hm12
 have ps:∀(M:Bool),(M=true↔qU J2 1000 (1000+D) l)->∀m9 q n c,ac m12 m9->eg m9 q (yF x0 x1 x2 x3 x5 x6 J2 l D M)->(yF x0 x1 x2 x3 x5 x6 J2 l D M).length=n*2->dQ x0 x1 x2 x3 x4 x5 x6 p0 1 c0 x9 p1 1 c1 p2 n2 c2 m9 q n c 0:=by
  intro M hM m9 q n c hm9 hrow hlen Da Ja la hTa hJa hla
  have hup:ac m m9:=((up7.trans hm10).trans hm12).trans hm9
  have e0:D=Da:=t1.uniq hup hTa.2.1
  have e1:[J2]=[Ja]:=hJ.uniq hup hJa
  have e2:l=la:=hl.uniq hup hla
  cases e1
  subst e0;subst e2
  exact ⟨rfl,M,hM,hrow,hlen⟩
 have o3:Dx p3 n3 c3 (aV 1 (bZ (marks (uq D) l l.length) 0)):=⟨⟨hn3,hc3⟩,by rw [cj,hn3e];omega,by rw [<-hr0];exact hp3,fun v h=>dA h⟩
 have o4:nl m12 p4 n4 c4 (aV 2 (hZ x0 x1 x2 x3 x5 x6 [J2] l (ir x0 [J2]))):=⟨⟨hn4,hc4⟩,by rw [cj,hcapN];omega,hcapR.sub up4,fun v h=>dA h⟩
 have o5:nl m12 p5 n5 c5 (aV 3 (hZ x0 x1 x2 x3 x5 x6 [J2] l (dz x5 x6 [J2]))):=⟨⟨hn5,hc5⟩,by rw [cj,hratN];omega,(((hratR.sub hm6).sub hm7).sub hm10).sub hm12,fun v h=>dA h⟩
 have o6:nl m12 p6 n6 c6 (aV 4 (hZ x0 x1 x2 x3 x5 x6 [J2] l eF)):=⟨⟨hn6,hc6⟩,by rw [cj,hbrkN];omega,((hbrkR.sub hm7).sub hm10).sub hm12,fun v h=>dA h⟩
 have o7:nl m12 p7 0 c7 []:=⟨⟨by omega,hc7⟩,rfl,⟨(fun p _ j x h=>by simp at h),fun _=>rfl⟩,fun v h=>by cases h⟩
 have o8:Dx p8 n8 c8 (aV 5 (bZ (marks (xY J2 1000 (1000+D)) l l.length) 0)):=⟨⟨hn8,hc8⟩,by rw [cj,hn8e];omega,by rw [<-hr1];exact hp8,fun v h=>dA h⟩
 have o10:Dx p10 n10 gJ (aV 6 (bZ (marks mW l l.length) 0)):=⟨⟨hn10,hc10⟩,by rw [cj,hn10e];omega,by rw [<-hr3];exact hp10,fun v h=>dA h⟩
 have lenb:∀T:List Value,T.length<=2->(gB (aV 1 (bZ (marks (uq D) l l.length) 0)) (aV 2 (hZ x0 x1 x2 x3 x5 x6 [J2] l (ir x0 [J2]))) (aV 3 (hZ x0 x1 x2 x3 x5 x6 [J2] l (dz x5 x6 [J2]))) (aV 4 (hZ x0 x1 x2 x3 x5 x6 [J2] l eF)) (aV 5 (bZ (marks (xY J2 1000 (1000+D)) l l.length) 0)) (aV 6 (bZ (marks mW l l.length) 0)) T []).length<=100000:=by
  intro T hT
  have c1:=mo (a:=x0) (b:=x1) (c:=x2) (d:=x3) (t:=x5) (u:=x6) (L:=[J2]) (l:=l) (f:=ir x0 [J2])
  have c2:=mo (a:=x0) (b:=x1) (c:=x2) (d:=x3) (t:=x5) (u:=x6) (L:=[J2]) (l:=l) (f:=dz x5 x6 [J2])
  have c3:=mo (a:=x0) (b:=x1) (c:=x2) (d:=x3) (t:=x5) (u:=x6) (L:=[J2]) (l:=l) (f:=eF)
  unfold gB
  simp only [List.flatten_cons,List.flatten_nil,List.length_append,List.length_nil,cj]
  omega
 have endn:(¬qU J2 1000 (1000+D) l)->Jr m12 r0 p3 n3 c3 p4 n4 c4 p5 n5 c5 p6 n6 c6 p7 0 c7 r1 p8 n8 c8 r3 p10 n10 gJ (fun m q n c=>dQ x0 x1 x2 x3 x4 x5 x6 p0 1 c0 x9 p1 1 c1 p2 n2 c2 m q n c 0):=fun hno=>by
  rw [hr0,hr1,hr3]
  exact IW o3 o4 o5 o6 o7 o8 o10 (lenb [] (by simp)) (fun m q n c hm h1 h2=>ps false ⟨(fun h=>by cases h),fun h=>absurd h hno⟩ m q n c hm (by unfold yF;rw [if_neg (by simp)];exact h1) (by unfold yF;rw [if_neg (by simp)];exact h2))
 have endm:qU J2 1000 (1000+D) l->Jq m12 r0 p3 n3 c3 p4 n4 c4 p5 n5 c5 p6 n6 c6 p7 0 c7 r1 p8 n8 c8 r3 p10 n10 gJ (fun m q n c=>dQ x0 x1 x2 x3 x4 x5 x6 p0 1 c0 x9 p1 1 c1 p2 n2 c2 m q n c 0):=fun hyes=>by
  rw [hr0,hr1,hr3]
  exact IV o3 o4 o5 o6 o7 o8 o10 (lenb _ (by simp)) (fun m q n c hm h1 h2=>ps true ⟨fun _=>hyes,fun _=>rfl⟩ m q n c hm (by unfold yF;rw [if_pos rfl];exact h1) (by unfold yF;rw [if_pos rfl];exact h2))
 have none_:(∀d,t<d->d<=1000+D->gg J2.s J2.t J2.u d=false)->¬qU J2 1000 (1000+D) l:=fun h ⟨d,d1,d2,d3⟩=>by
  by_cases hd:d<=t
  ·exact htn d d1 hd d3
  ·have:=h d (by omega) d2
   rw [d3.1] at this;cases this
 refine ⟨fun h=>absurd rfl h,fun _=>⟨fun hb=>endn ?_,fun hb => ?_⟩⟩
 ·split at hnx
  ·rw [hnx.1] at hb;cases hb
  ·rename_i hlt
   exact none_ (fun d d1 _=>BC hev.t.1 (by omega) hlt d d1)
 ·split at hnx
  ·rename_i hlt
   obtain ⟨_,hue⟩:=hnx
   obtain ⟨g1,g2,g3⟩:=BD hev.t.1 (by omega) hlt
   rw [<-hue] at g1 g2 g3
   refine ⟨fun hgt=>endn (none_ (fun d d1 d2=>g3 d d1 (by omega))),fun hle => ?_⟩
   have main:wL (Cw 1000 (1000+D) (xh J2 (1000+D) l)) p0 1000 (1000+D) 0 t u m12 r4 (Jq m12 r0 p3 n3 c3 p4 n4 c4 p5 n5 c5 p6 n6 c6 p7 0 c7 r1 p8 n8 c8 r3 p10 n10 gJ (fun m q n c=>dQ x0 x1 x2 x3 x4 x5 x6 p0 1 c0 x9 p1 1 c1 p2 n2 c2 m q n c 0)):=by
    refine AC (by omega) (by omega) hle (by omega) (aw hdead.1 (by omega)) hev.dead hr4 (by omega) (fun h1 h2=>endm ⟨u,by omega,hle,g2,h1,h2⟩) (fun hnm=>⟨⟨hu1,hu2⟩,⟨by omega,hle,fun d d1 d2 hms => ?_⟩,by simp only [Cw];omega⟩)
    by_cases hd:d<=t
    ·exact htn d d1 hd hms
    ·by_cases hdu:d=u
     ·subst hdu
      exact hnm ⟨hms.2.1,hms.2.2⟩
     ·have:=g3 d (by omega) (by omega)
      rw [hms.1] at this;cases this
   exact ⟨fun _=>main,fun _=>main⟩
  ·rw [hnx.1] at hb;cases hb
theorem Io:∀m,bG Jy.args Jy.spec fun r=>r.1 m->bg m []:=fun m _ _ _ _ _ _ _ _ _ _ _ _ _ _ _ _ _ _=>trivial
set_option maxRecDepth 20000 in
theorem Im:cI Tryz.prog Jy:=
 vy [] KE rfl (aZ [vv,wu,CX,CY,CA,yh,Cf,Ce,Cg,vg] ⟨kJ,⟨kZ,⟨BQ,⟨BS,⟨A7,⟨vt,⟨Aj,⟨Ae,⟨Al,⟨xK,trivial⟩⟩⟩⟩⟩⟩⟩⟩⟩⟩ rfl) (ph _ [⟨(29,3),[],[],[(7,41)],[9]⟩,⟨(29,3),[],[],[(7,41)],[]⟩,⟨(40,1),[],[],[],[]⟩] [133]) 1000 Jy _ rfl rfl Io (Eq.mp (show DJ=_ by kernel_rfl) Ip)
end
end Go.Proofs.YtjabmipkllkfbaaGreatDoor.Vc
