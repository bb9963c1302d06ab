/-
  Contracts, by their trees; Contracts, by their trees; Jobs in the memory that nobody writes; What an argument of a statement holds: its cells, one by one; the rows behind its slices.
-/
import Derived.Test.YtjabmipkllkfbaaGreatDoorZL
import Derived.Test.YtjabmipkllkfbaaGreatDoorZI
import Derived.WideShapes
import Derived.ChangeArms
import Derived.DataReads
import Derived.Lib.LaidTab
import Derived.Lib.LaidU8
set_option linter.unusedVariables false
set_option linter.unusedSimpArgs false
namespace Go.Proofs.YtjabmipkllkfbaaGreatDoor.Vc
section
def oT (k a b c d e f:Int) (x y:Bool) (z s t u:Int) (S:List (Int×Int)):Int:=
 if (k=0/\S.length=0/\(s=0/\t=0/\u=0)/\(a=0/\b=0/\c=0/\d=0/\e=0/\f=0/\x=false/\y=false)/\z=0/\mb S=0)
  \/(k=1/\(s=0/\t=0/\u=0)/\AP a b c d e f x y=0/\Fy z=0/\mb S=0)
  \/(k=2/\(a=0/\b=0/\c=0/\d=0/\e=0/\f=0/\x=false/\y=false)/\z=0/\Gw s t u=0/\mb S=0) then 0 else 16
def iP (k a b c d e f:Int) (x y:Bool) (z s t u:Int) (p:Option Addr) (n cc:Nat) (m:Mem):Prop:=dJ m ln/\∃S,dN m p n S
def aU (k a b c d e f:Int) (x y:Bool) (z s t u:Int) (p:Option Addr) (n cc:Nat) (m:Mem) (r:Int):Prop:=∀S,dN m p n S->r=oT k a b c d e f x y z s t u S
def xz:Sp:={ args:=[.i .i64,.i .u64,.i .u64,.i .u64,.i .u64,.i .u64,.i .u64,.b,.b,.i .i64,.i .i64,.i .i64,.i .i64,.sl],grp:=[some 14],res:=[.i .i64],rgrp:=[none],fn:=81,spec:=fun a0 a1 a2 a3 a4 a5 a6 a7 a8 a9 a10 a11 a12 a13 a14 a15=>(iP a0 a1 a2 a3 a4 a5 a6 a7 a8 a9 a10 a11 a12 a13 a14 a15,aU a0 a1 a2 a3 a4 a5 a6 a7 a8 a9 a10 a11 a12 a13 a14 a15) }
def xA:Prop:=∀m:Mem,∀x0:Int,mi<=x0->x0<=ma->∀x1:Int,IntKind.u64.min<=x1->x1<=IntKind.u64.max->∀x2:Int,IntKind.u64.min<=x2->x2<=IntKind.u64.max->∀x3:Int,IntKind.u64.min<=x3->x3<=IntKind.u64.max->∀x4:Int,IntKind.u64.min<=x4->x4<=IntKind.u64.max->∀x5:Int,IntKind.u64.min<=x5->x5<=IntKind.u64.max->∀x6:Int,IntKind.u64.min<=x6->x6<=IntKind.u64.max->∀b0:Bool,∀b1:Bool,∀x7:Int,mi<=x7->x7<=ma->∀x8:Int,mi<=x8->x8<=ma->∀x9:Int,mi<=x9->x9<=ma->∀x10:Int,mi<=x10->x10<=ma->∀(p0:Option Addr) (n0 c0:Nat),n0<=9223372036854775807->c0<=9223372036854775807->iP x0 x1 x2 x3 x4 x5 x6 b0 b1 x7 x8 x9 x10 p0 n0 c0 m->
 ((x0=0->
 (((n0:Int)=0->
 (((x8=0/\(x9=0/\x10=0))->
 (((x1=0/\(x2=0/\(x3=0/\(x4=0/\(x5=0/\(x6=0/\(b0=false/\b1=false)))))))->
 ((x7≠0->
 ((K.i64 16)/\aU x0 x1 x2 x3 x4 x5 x6 b0 b1 x7 x8 x9 x10 p0 n0 c0 m 16))/\
 (x7=0->
 ((n0<=9223372036854775807/\c0<=9223372036854775807)/\lF (p0.map fun p=>p.add 0) n0 c0 m/\∀m1:Mem,ac m m1->∀x13:Int,mi<=x13->x13<=ma->cR (p0.map fun p=>p.add 0) n0 c0 m1 x13->
 ((x13≠0->
 ((K.i64 16)/\aU x0 x1 x2 x3 x4 x5 x6 b0 b1 x7 x8 x9 x10 p0 n0 c0 m1 16))/\
 (x13=0->
 ((K.i64 0)/\aU x0 x1 x2 x3 x4 x5 x6 b0 b1 x7 x8 x9 x10 p0 n0 c0 m1 0)))))))/\
 ((x1=0->(x2=0->(x3=0->(x4=0->(x5=0->(x6=0->(b0=false->b1=true)))))))->
 ((K.i64 16)/\aU x0 x1 x2 x3 x4 x5 x6 b0 b1 x7 x8 x9 x10 p0 n0 c0 m 16))))/\
 ((x8=0->(x9=0->x10≠0))->
 ((K.i64 16)/\aU x0 x1 x2 x3 x4 x5 x6 b0 b1 x7 x8 x9 x10 p0 n0 c0 m 16))))/\
 ((n0:Int)≠0->
 ((K.i64 16)/\aU x0 x1 x2 x3 x4 x5 x6 b0 b1 x7 x8 x9 x10 p0 n0 c0 m 16))))/\
 (x0≠0->
 ((x0=1->
 (((x8=0/\(x9=0/\x10=0))->
 (sn x1 x2 x3 x4 x5 x6 b0 b1 m/\∀m1:Mem,ac m m1->∀x13:Int,mi<=x13->x13<=ma->ba x1 x2 x3 x4 x5 x6 b0 b1 m1 x13->
 ((x13=0->
 (ug x7 m1/\∀m2:Mem,ac m1 m2->∀x14:Int,mi<=x14->x14<=ma->gR x7 m2 x14->
 ((x14≠0->
 ((K.i64 16)/\aU x0 x1 x2 x3 x4 x5 x6 b0 b1 x7 x8 x9 x10 p0 n0 c0 m2 16))/\
 (x14=0->
 ((n0<=9223372036854775807/\c0<=9223372036854775807)/\lF (p0.map fun p=>p.add 0) n0 c0 m2/\∀m3:Mem,ac m2 m3->∀x15:Int,mi<=x15->x15<=ma->cR (p0.map fun p=>p.add 0) n0 c0 m3 x15->
 ((x15≠0->
 ((K.i64 16)/\aU x0 x1 x2 x3 x4 x5 x6 b0 b1 x7 x8 x9 x10 p0 n0 c0 m3 16))/\
 (x15=0->
 ((K.i64 0)/\aU x0 x1 x2 x3 x4 x5 x6 b0 b1 x7 x8 x9 x10 p0 n0 c0 m3 0))))))))/\
 (x13≠0->
 ((K.i64 16)/\aU x0 x1 x2 x3 x4 x5 x6 b0 b1 x7 x8 x9 x10 p0 n0 c0 m1 16)))))/\
 ((x8=0->(x9=0->x10≠0))->
 ((K.i64 16)/\aU x0 x1 x2 x3 x4 x5 x6 b0 b1 x7 x8 x9 x10 p0 n0 c0 m 16))))/\
 (x0≠1->
 ((x0=2->
 (((x1=0/\(x2=0/\(x3=0/\(x4=0/\(x5=0/\(x6=0/\(b0=false/\b1=false)))))))->
 ((x7=0->
 (sA x8 x9 x10 m/\∀m1:Mem,ac m m1->∀x13:Int,mi<=x13->x13<=ma->dV x8 x9 x10 m1 x13->
 ((x13≠0->
 ((K.i64 16)/\aU x0 x1 x2 x3 x4 x5 x6 b0 b1 x7 x8 x9 x10 p0 n0 c0 m1 16))/\
 (x13=0->
 ((n0<=9223372036854775807/\c0<=9223372036854775807)/\lF (p0.map fun p=>p.add 0) n0 c0 m1/\∀m2:Mem,ac m1 m2->∀x14:Int,mi<=x14->x14<=ma->cR (p0.map fun p=>p.add 0) n0 c0 m2 x14->
 ((x14≠0->
 ((K.i64 16)/\aU x0 x1 x2 x3 x4 x5 x6 b0 b1 x7 x8 x9 x10 p0 n0 c0 m2 16))/\
 (x14=0->
 ((K.i64 0)/\aU x0 x1 x2 x3 x4 x5 x6 b0 b1 x7 x8 x9 x10 p0 n0 c0 m2 0))))))))/\
 (x7≠0->
 ((K.i64 16)/\aU x0 x1 x2 x3 x4 x5 x6 b0 b1 x7 x8 x9 x10 p0 n0 c0 m 16))))/\
 ((x1=0->(x2=0->(x3=0->(x4=0->(x5=0->(x6=0->(b0=false->b1=true)))))))->
 ((K.i64 16)/\aU x0 x1 x2 x3 x4 x5 x6 b0 b1 x7 x8 x9 x10 p0 n0 c0 m 16))))/\
 (x0≠2->
 ((K.i64 16)/\aU x0 x1 x2 x3 x4 x5 x6 b0 b1 x7 x8 x9 x10 p0 n0 c0 m 16)))))))
set_option maxRecDepth 10000 in
set_option maxHeartbeats 4000000 in
theorem E4:xA:=by
 intro m x0 _ _ x1 _ _ x2 _ _ x3 _ _ x4 _ _ x5 _ _ x6 _ _ b0 b1 x7 _ _ x8 _ _ x9 _ _ x10 _ _ p0 n0 c0 hn hc ⟨hg,S,hS⟩
 have ps:∀(m':Mem) (z:Int),ac m m'->z=oT x0 x1 x2 x3 x4 x5 x6 b0 b1 x7 x8 x9 x10 S->aU x0 x1 x2 x3 x4 x5 x6 b0 b1 x7 x8 x9 x10 p0 n0 c0 m' z:=fun m' z h e T hT=>by
  rw [<-hS.uniq h hT];exact e
 have hl:=hS.1
 rw [ai]
 repeat' first | (refine And.intro ?_ ?_) | intro _
 all_goals first
  | trivial
  | (constructor<;>decide)
  | assumption
  | (refine ⟨S, ?_⟩
     repeat (first | exact hS | refine dN.sub (by assumption) ?_)
     done)
  | (rename_i T hT
     have hu:=hS.uniq (by repeat (first | exact fV _ | assumption | refine ac.trans ?_ (by assumption))) hT
     subst hu
     clear ps hg
     try simp only [gR,dV,ba] at *
     first
      | (have e := (‹cR _ _ _ _ _› : cR _ _ _ _ _) S (by repeat (first | exact hS | refine dN.sub (by assumption) ?_))
         clear hS hT
         subst_vars
         simp_all [oT];done)
      | (clear hS;subst_vars;simp_all [oT];done)
      | (have e := (‹cR _ _ _ _ _› : cR _ _ _ _ _) S (by repeat (first | exact hS | refine dN.sub (by assumption) ?_))
         rw [oT,if_pos (.inl ⟨by assumption,by omega,by assumption,by assumption,by assumption,by omega⟩)])
      | (clear hS;subst_vars;simp_all [oT];omega))
  | (repeat (first | exact hg | refine dJ.sub (by assumption) ?_)
     done)
theorem E3:∀m,bG xz.args xz.spec fun r=>r.1 m->bg m ln:=fun m a b c d e f g h i j k l n o p q hh=>hh.1.h
set_option maxRecDepth 10000 in
theorem E2:cI Tryz.prog xz:=
 Aw ln [] [.eq (.var 0) (.lit 0),.eq (.var 0) (.lit 1),.eq (.var 0) (.lit 2)] rfl (aZ [Iu,ID,Jm,Iz] ⟨FY,⟨Gu,⟨HW,⟨Gh,trivial⟩⟩⟩⟩ rfl) (bC _ []) 1000 xz _ rfl rfl E3 (Eq.mp (show xA=_ by kernel_rfl) E4)
end
section
end
section
theorem En {m m':Mem} (h:ac m m') {p:Option Addr} {z:Int} {n:Nat} (k:cw m p z n):cw m' p z n:=by
 obtain ⟨q,o,h1,h2,h3⟩:=k
 refine ⟨q,o,h1,h2,fun j hj => ?_⟩
 obtain ⟨v,v1,v2⟩:=h3 j hj
 exact ⟨v,fI h v1,v2⟩
structure cr where
 name:List UInt8
 k:Int
 a:Int
 b:Int
 c:Int
 d:Int
 e:Int
 f:Int
 x:Bool
 y:Bool
 z:Int
 s:Int
 t:Int
 u:Int
 skip:List (Int×Int)
 pol:As.Pol
def ld (m:Mem) (p:Option Addr) (z x:Int):Prop:=ae m p z=some (.int .u64 x)/\IntKind.u64.min<=x/\x<=IntKind.u64.max
theorem ld.sub {m m':Mem} (h:ac m m') {p:Option Addr} {z x:Int} (k:ld m p z x):ld m' p z x:=⟨dl h k.1,k.2⟩
theorem ld.uniq {m m':Mem} (h:ac m m') {p:Option Addr} {z x y:Int} (k:ld m p z x) (k':ld m' p z y):x=y:=by
 have:=dl h k.1
 rw [k'.1] at this;cases this;rfl
theorem iX {m m':Mem} (h:ac m m') {p:Option Addr} {z:Int} {x y:Value} (k:ae m p z=some x) (k':ae m' p z=some y):x=y:=by
 have:=dl h k
 rw [k'] at this;cases this;rfl
def vq (m:Mem) (p:Option Addr) (z:Int) (J:cr):Prop:=
 bj m p (z+1) J.k/\ld m p (z+2) J.a/\ld m p (z+3) J.b/\ld m p (z+4) J.c/\ld m p (z+5) J.d/\ld m p (z+6) J.e/\ld m p (z+7) J.f/\
  ae m p (z+8)=some (.bool J.x)/\ae m p (z+9)=some (.bool J.y)/\bj m p (z+10) J.z/\bj m p (z+11) J.s/\bj m p (z+12) J.t/\bj m p (z+13) J.u/\
  ∃q n c,ae m p (z+14)=some (.slice q n c)/\(n<=c/\c<=9223372036854775807)/\dN m q n J.skip
def Aa (m:Mem) (p:Option Addr) (z:Int) (P:As.Pol):Prop:=
 bj m p (z+15) P.cap/\bj m p (z+16) P.prio/\bj m p (z+17) P.splay/\bj m p (z+18) P.dead/\bj m p (z+19) P.mis/\bj m p (z+20) P.keep/\bj m p (z+21) P.lim.t/\bj m p (z+22) P.lim.tau/\
  bj m p (z+23) P.brk.fails/\bj m p (z+24) P.brk.open_/\bj m p (z+25) P.brk.probes/\bj m p (z+26) P.ret.max_/\bj m p (z+27) P.ret.base/\bj m p (z+28) P.ret.cap/\bj m p (z+29) P.ret.jit
def Il (m:Mem) (p:Option Addr) (z:Int) (s:List UInt8):Prop:=ae m p z=some (.string ⟨s.toArray⟩)/\s.length<=9223372036854775807
def nZ (m:Mem) (p:Option Addr) (z:Int) (J:cr):Prop:=(p≠none/\cw m p z 30)/\Il m p z J.name/\vq m p z J/\Aa m p z J.pol
theorem vq.sub {m m':Mem} (h:ac m m') {p:Option Addr} {z:Int} {J:cr} (k:vq m p z J):vq m' p z J:=by
 obtain ⟨a1,a2,a3,a4,a5,a6,a7,a8,a9,a10,a11,a12,a13,q,n,c,b1,b2,b3⟩:=k
 exact ⟨a1.sub h,a2.sub h,a3.sub h,a4.sub h,a5.sub h,a6.sub h,a7.sub h,dl h a8,dl h a9,a10.sub h,a11.sub h,a12.sub h,a13.sub h,q,n,c,dl h b1,b2,b3.sub h⟩
theorem Aa.sub {m m':Mem} (h:ac m m') {p:Option Addr} {z:Int} {P:As.Pol} (k:Aa m p z P):Aa m' p z P:=by
 obtain ⟨a1,a2,a3,a4,a5,a6,a7,a8,a9,a10,a11,a12,a13,a14,a15⟩:=k
 exact ⟨a1.sub h,a2.sub h,a3.sub h,a4.sub h,a5.sub h,a6.sub h,a7.sub h,a8.sub h,a9.sub h,a10.sub h,a11.sub h,a12.sub h,a13.sub h,a14.sub h,a15.sub h⟩
theorem nZ.sub {m m':Mem} (h:ac m m') {p:Option Addr} {z:Int} {J:cr} (k:nZ m p z J):nZ m' p z J:=
 ⟨⟨k.1.1,En h k.1.2⟩,⟨dl h k.2.1.1,k.2.1.2⟩,k.2.2.1.sub h,k.2.2.2.sub h⟩
theorem nZ.uniq {m m':Mem} (h:ac m m') {p:Option Addr} {z:Int} {J T:cr} (k:nZ m p z J) (k':nZ m' p z T):J=T:=by
 obtain ⟨_,n1,⟨a1,a2,a3,a4,a5,a6,a7,a8,a9,a10,a11,a12,a13,q,n,c,b1,b2,b3⟩,⟨d1,d2,d3,d4,d5,d6,d7,d8,d9,d10,d11,d12,d13,d14,d15⟩⟩:=k
 obtain ⟨_,n1',⟨a1',a2',a3',a4',a5',a6',a7',a8',a9',a10',a11',a12',a13',q',n',c',b1',b2',b3'⟩,⟨d1',d2',d3',d4',d5',d6',d7',d8',d9',d10',d11',d12',d13',d14',d15'⟩⟩:=k'
 have e0:=iX h n1.1 n1'.1
 have e14:=iX h b1 b1'
 cases e14
 have e15:=b3.uniq h b3'
 have g1:=a1.uniq h a1';have g2:=a2.uniq h a2';have g3:=a3.uniq h a3';have g4:=a4.uniq h a4';have g5:=a5.uniq h a5';have g6:=a6.uniq h a6';have g7:=a7.uniq h a7'
 have g8:=iX h a8 a8';have g9:=iX h a9 a9'
 have g10:=a10.uniq h a10';have g11:=a11.uniq h a11';have g12:=a12.uniq h a12';have g13:=a13.uniq h a13'
 have p1:=d1.uniq h d1';have p2:=d2.uniq h d2';have p3:=d3.uniq h d3';have p4:=d4.uniq h d4';have p5:=d5.uniq h d5';have p6:=d6.uniq h d6';have p7:=d7.uniq h d7';have p8:=d8.uniq h d8'
 have p9:=d9.uniq h d9';have p10:=d10.uniq h d10';have p11:=d11.uniq h d11';have p12:=d12.uniq h d12';have p13:=d13.uniq h d13';have p14:=d14.uniq h d14';have p15:=d15.uniq h d15'
 obtain ⟨name,k,a,b,c,d,e,f,x,y,z,s,t,u,skip,⟨cap,prio,splay,dead,mis,keep,⟨lt,ltau⟩,⟨bf,bo,bp⟩,⟨r1,r2,r3,r4⟩⟩⟩:=J
 obtain ⟨name',k',a',b',c',d',e',f',x',y',z',s',t',u',skip',⟨cap',prio',splay',dead',mis',keep',⟨lt',ltau'⟩,⟨bf',bo',bp'⟩,⟨r1',r2',r3',r4'⟩⟩⟩:=T
 simp only at e0 e15 g1 g2 g3 g4 g5 g6 g7 g8 g9 g10 g11 g12 g13 p1 p2 p3 p4 p5 p6 p7 p8 p9 p10 p11 p12 p13 p14 p15
 injection e0 with e0;injection e0 with e0
 have e0:=congrArg Array.toList e0
 simp only at e0
 injection g8 with g8;injection g9 with g9
 subst e0;subst e15;subst g1;subst g2;subst g3;subst g4;subst g5;subst g6;subst g7;subst g8;subst g9;subst g10;subst g11;subst g12;subst g13
 subst p1;subst p2;subst p3;subst p4;subst p5;subst p6;subst p7;subst p8;subst p9;subst p10;subst p11;subst p12;subst p13;subst p14;subst p15
 rfl
def cM (m:Mem) (p:Option Addr) (n:Nat) (L:List cr):Prop:=L.length=n/\∀(i:Nat) (J:cr),L[i]? = some J->nZ m p ((i:Int)*30) J
theorem cM.sub {m m':Mem} (h:ac m m') {p:Option Addr} {n:Nat} {l:List cr} (k:cM m p n l):cM m' p n l:=⟨k.1,fun i x e=>(k.2 i x e).sub h⟩
theorem cM.uniq {m m':Mem} (h:ac m m') {p:Option Addr} {n:Nat} {S T:List cr} (k:cM m p n S) (k':cM m' p n T):S=T:=by
 apply List.ext_getElem?
 intro i
 by_cases hi:i<n
 ·have h1:S[i]? = some (S[i]'(by rw [k.1];exact hi)):=List.getElem?_eq_getElem _
  have h2:T[i]? = some (T[i]'(by rw [k'.1];exact hi)):=List.getElem?_eq_getElem _
  rw [h1,h2]
  congr 1
  exact (k.2 i _ h1).uniq h (k'.2 i _ h2)
 ·rw [List.getElem?_eq_none (by rw [k.1];omega),List.getElem?_eq_none (by rw [k'.1];omega)]
theorem cM.at_ {m:Mem} {p:Option Addr} {n:Nat} {l:List cr} (k:cM m p n l) {i:Int} (h0:0<=i) (h1:i<(n:Int)):∃J,l[i.toNat]? = some J/\nZ m p (0+i*30) J:=by
 have hi:i.toNat<l.length:=by rw [k.1];omega
 have e:l[i.toNat]? = some (l[i.toNat]'hi):=List.getElem?_eq_getElem _
 have c:=k.2 i.toNat _ e
 rw [show ((i.toNat:Nat):Int)*30=0+i*30 by omega] at c
 exact ⟨_,e,c⟩
def xB (J:cr):Int:=oT J.k J.a J.b J.c J.d J.e J.f J.x J.y J.z J.s J.t J.u J.skip
def lZ (J:cr):Bool:=decide (xB J=0)&&decide (As.polP J.pol=0)
def qE (N:List (List UInt8)) (i:Nat):Bool:=(N.take i).contains (N.getD i [])
def qd (L:List cr):List (List UInt8):=L.map cr.name
def gf (a b c d t u:Int) (L:List cr):Int:=
 if sJ a b c d t u≠0 then sJ a b c d t u
 else if 64<L.length then 12
 else if L.all (fun J=>ft J.name)=false then 15
 else if (List.range L.length).any (qE (qd L))=true then 6
 else if L.all lZ=false then 16 else 0
def yp (s:List UInt8):Value := .tuple #[.string ⟨s.toArray⟩,.bool true]
theorem tN (a b:List UInt8):dh (.string ⟨a.toArray⟩) (.string ⟨b.toArray⟩)=some (decide (a=b)):=by
 simp only [dh]
 congr 1
 rw [beq_toListBytes,ByteArray.toList_eq,ByteArray.toList_eq]
 rw [Bool.eq_iff_iff];simp
theorem G9 (s:List UInt8):∀(N:List (List UInt8)) (i:Nat),s ∉ N->bb (.string ⟨s.toArray⟩) (N.map yp) i=some none:=by
 intro N
 induction N with
 | nil=>intro i _;rfl
 | cons t N ih=>
  intro i h
  simp only [List.mem_cons,not_or] at h
  have h1:dh (.string ⟨s.toArray⟩) (.string ⟨t.toArray⟩)=some false:=by rw [tN];simp [h.1]
  simp only [List.map_cons,yp,bb,h1]
  exact ih _ h.2
theorem Ha (s:List UInt8):∀(N:List (List UInt8)) (i:Nat),s∈N->∃j,bb (.string ⟨s.toArray⟩) (N.map yp) i=some (some (j,.bool true)):=by
 intro N
 induction N with
 | nil=>intro i h;cases h
 | cons t N ih =>
  intro i h
  by_cases ht:s=t
  ·have h1:dh (.string ⟨s.toArray⟩) (.string ⟨t.toArray⟩)=some true:=by rw [tN];simp [ht]
   exact ⟨i,by simp only [List.map_cons,yp,bb,h1]⟩
  ·have h1:dh (.string ⟨s.toArray⟩) (.string ⟨t.toArray⟩)=some false:=by rw [tN];simp [ht]
   have hN:s∈N:=by
    rcases List.mem_cons.1 h with h | h
    ·exact (ht h).elim
    ·exact h
   obtain ⟨j,hj⟩:=ih (i+1) hN
   exact ⟨j,by simp only [List.map_cons,yp,bb,h1];exact hj⟩
end
section
open Go.WideShapes Go.RowKit
def td (w:World):Mem:=fun b=>w.heap[b]?
theorem CR {w:World} {a:Addr} {v:Value} (h:w.cell? a=some v):df (td w) a=some v:=h
inductive Lf where
 | i (k:IntKind)
 | b
 | s
 | sl (e:TypeId)
def GV (P:Program) (rec:TypeId->Option (List Lf)):List Field->Nat->Option (List Lf)
 | [],_=>some []
 | f :: fs, o =>
  if f.offset=o then
   match rec f.type with
   | some l=>if l.length=P.cellsOf f.type then (match GV P rec fs (o+l.length) with | some r=>some (l++r) | none=>none) else none
   | none=>none
  else none
def CK (P:Program):Nat->TypeId->Option (List Lf)
 | 0,_=>none
 | n+1,t=>
  match P.underlying t with
  | some (.int k)=>some [.i k]
  | some .bool=>some [.b]
  | some .string=>some [.s]
  | some (.slice e)=>some [.sl e]
  | some (.struct fs)=>(match GV P (CK P n) fs.toList 0 with | some l=>if l.length=P.cellsOf t then some l else none | none=>none)
  | _=>none
section
variable {H:Type} {enc:TypeId×Value->H} {P:Program} {w:World} {base:Nat} {sp:Nat->Bool} {held:Bool}
def wy (enc:TypeId×Value->H) (P:Program) (w:World) (base:Nat) (sp:Nat->Bool) (held:Bool):Lf->Value->Prop
 | .i k,v=>∃n,v = .int k n/\(Lit.int k n).wf=true
 | .b,v=>∃b,v = .bool b
 | .s,v=>∃s:ByteArray,v = .string s/\s.size<=maxLen
 | .sl e,v=>∃a n c,v = .slice a n c/\n<=c/\c<=maxLen/\∀i,i<n->∃ad,a=some ad/\∃cs fuel x,w.cells? base (ad.add (i*P.cellsOf e)) (P.cellsOf e)=some cs/\DataW.trod enc P w base sp held fuel e cs=some x
theorem wy.one {l:Lf} {v:Value} (h:wy enc P w base sp held l v):bK v=some v:=by
 cases l with
 | i k=>obtain ⟨_,rfl,_⟩:=h;rfl
 | b=>obtain ⟨_,rfl⟩:=h;rfl
 | s=>obtain ⟨_,rfl,_⟩:=h;rfl
 | sl e=>obtain ⟨_,_,_,rfl,_⟩:=h;rfl
def oa (enc:TypeId×Value->H) (P:Program) (w:World) (base:Nat) (sp:Nat->Bool) (held:Bool) (ls:List Lf) (cs:List Value):Prop:=
 cs.length=ls.length/\∀(i:Nat) (l:Lf),ls[i]? = some l->∃v,cs[i]? = some v/\wy enc P w base sp held l v
theorem oa.single {l:Lf} {v:Value} (h:wy enc P w base sp held l v):oa enc P w base sp held [l] [v]:=by
 refine ⟨rfl,fun i l' hl => ?_⟩
 cases i with
 | zero=>simp at hl;subst hl;exact ⟨v,rfl,h⟩
 | succ i=>simp at hl
theorem GW {rec:TypeId->Option (List Lf)} {cs:List Value}:∀(fs:List Field) (o:Nat) (r:List Lf),GV P rec fs o=some r->
  (∀f∈fs,∀l,rec f.type=some l->oa enc P w base sp held l ((cs.drop f.offset).take (P.cellsOf f.type)))->
  ∀(i:Nat) (l:Lf),r[i]? = some l->∃v,cs[o+i]? = some v/\wy enc P w base sp held l v:=by
 intro fs
 induction fs with
 | nil=>intro o r h _ i l hl;cases h;simp at hl
 | cons f fs ih =>
  intro o r h hf i l hl
  simp only [GV] at h
  split at h
  ·rename_i ho
   split at h
   ·rename_i l1 hl1
    split at h
    ·rename_i hsz
     split at h
     ·rename_i r1 hr1
      cases h
      rcases Nat.lt_or_ge i l1.length with hi | hi
      ·rw [List.getElem?_append_left hi] at hl
       obtain ⟨v,hv,hok⟩:=(hf f (List.mem_cons_self ..) l1 hl1).2 i l hl
       refine ⟨v,?_,hok⟩
       rw [List.getElem?_take,if_pos (by omega),List.getElem?_drop,ho] at hv
       exact hv
      ·rw [List.getElem?_append_right hi] at hl
       obtain ⟨v,hv,hok⟩:=ih _ _ hr1 (fun g hg=>hf g (List.mem_cons_of_mem _ hg)) (i-l1.length) l hl
       refine ⟨v,?_,hok⟩
       rw [<-hv]
       congr 1
       omega
     ·cases h
    ·cases h
   ·cases h
  ·cases h
theorem EA:∀(n:Nat) (t:TypeId) (ls:List Lf),CK P n t=some ls->∀(fuel:Nat) (cs:List Value) (x:DataW H×List MemPlace),DataW.trod enc P w base sp held fuel t cs=some x->oa enc P w base sp held ls cs:=by
 intro n
 induction n with
 | zero=>intro t ls h;cases h
 | succ n ih =>
  intro t ls h fuel cs x hx
  unfold CK at h
  split at h
  ·rename_i k ht
   cases h
   obtain ⟨z,rfl,_,hw⟩:=DataW.trod_int ht hx
   exact oa.single ⟨z,rfl,hw⟩
  ·rename_i ht
   cases h
   obtain ⟨b,rfl,_⟩:=DataW.trod_bool ht hx
   exact oa.single ⟨b,rfl⟩
  ·rename_i ht
   cases h
   obtain ⟨s,rfl,_,hs⟩:=DataW.trod_string ht hx
   exact oa.single ⟨s,rfl,hs⟩
  ·rename_i e ht
   cases h
   rcases DataW.trod_slice ht hx with ⟨rfl,_⟩ | ⟨a,len,cap,elems,rest,n',rfl,rfl,_,hb,hl,hm,hel,hel2,_,_⟩
   ·exact oa.single ⟨none,0,0,rfl,Nat.le_refl _,Nat.zero_le _,fun i hi=>by omega⟩
   ·refine oa.single ⟨some a,len,cap,rfl,hl,hm,fun i hi=>⟨a,rfl,?_⟩⟩
    have h1:=hel2 i hi
    rw [List.getElem?_eq_getElem (by omega)] at h1
    obtain ⟨cs',hc1,hc2⟩:=Option.bind_eq_some_iff.1 h1
    exact ⟨cs',n',_,hc1,hc2⟩
  ·rename_i fs ht
   obtain ⟨xs,n',rfl,_,hlen,hsz,hf⟩:=DataW.trod_struct ht hx
   split at h
   ·rename_i l hfl
    split at h
    ·rename_i hlc
     cases h
     refine ⟨by omega,fun i l' hl' => ?_⟩
     have:=GW (enc:=enc) (w:=w) (base:=base) (sp:=sp) (held:=held) (cs:=cs) fs.toList 0 _ hfl (fun f hfm l1 hl1 => ?_) i l' hl'
     ·rw [Nat.zero_add] at this;exact this
     ·obtain ⟨j,hj⟩:=List.getElem?_of_mem hfm
      have hjx:=hf j f (by simpa using hj)
      have hjl:j<xs.length:=by
       rw [hsz]
       have:=(List.getElem?_eq_some_iff.1 hj).1
       simpa using this
      rw [List.getElem?_eq_getElem hjl] at hjx
      exact ih _ _ hl1 _ _ _ hjx
    ·cases h
   ·cases h
  ·cases h
theorem wy.row {e:TypeId} {v:Value} (h:wy enc P w base sp held (.sl e) v):∃a n c,v = .slice a n c/\n<=c/\c<=maxLen/\
  ∀(k:Nat) (ls:List Lf),CK P k e=some ls->∀(i:Nat),i<n->∀(j:Nat) (l:Lf),ls[j]? = some l->∃u,ae (td w) a ((i:Int)*(ls.length:Int)+(j:Int))=some u/\wy enc P w base sp held l u:=by
 obtain ⟨a,n,c,rfl,h1,h2,h3⟩:=h
 refine ⟨a,n,c,rfl,h1,h2,fun k ls hls i hi j l hl => ?_⟩
 obtain ⟨ad,rfl,cs,fuel,x,hc,hx⟩:=h3 i hi
 have ho:=EA k e ls hls _ _ _ hx
 obtain ⟨_,hlen,hcell⟩:=World.cells?_some hc
 obtain ⟨u,hu,huk⟩:=ho.2 j l hl
 refine ⟨u,?_,huk⟩
 have hj:j<P.cellsOf e:=by
  have:=(List.getElem?_eq_some_iff.1 hu).1;omega
 have h4:=hcell j hj
 rw [hu,Addr.add_add] at h4
 have:=rX (CR h4) huk.one
 have e1:P.cellsOf e=ls.length:=by rw [<-hlen];exact ho.1
 rw [e1] at this
 have e2:(i:Int)*(ls.length:Int)+(j:Int)=Int.ofNat (i*ls.length+j):=by
  show _=((i*ls.length+j:Nat):Int)
  rw [Int.natCast_add,Int.natCast_mul]
 rw [e2];exact this
end
theorem GY {α:Type} {Q:Nat->α->Prop}:∀n:Nat,(∀i,i<n->∃x,Q i x)->∃l:List α,l.length=n/\∀(i:Nat) (x:α),l[i]? = some x->Q i x:=by
 intro n
 induction n with
 | zero=>intro _;exact ⟨[],rfl,fun i x h=>by simp at h⟩
 | succ n ih =>
  intro h
  obtain ⟨l,hl,hq⟩:=ih (fun i hi=>h i (by omega))
  obtain ⟨x,hx⟩:=h n (by omega)
  refine ⟨l++[x],by simp [hl],fun i y hy => ?_⟩
  rcases Nat.lt_trichotomy i n with g | g | g
  ·rw [List.getElem?_append_left (by omega)] at hy;exact hq i y hy
  ·subst g
   rw [List.getElem?_append_right (by omega),hl,Nat.sub_self] at hy
   simp at hy;subst hy;exact hx
  ·rw [List.getElem?_eq_none (by simp [hl];omega)] at hy;cases hy
theorem z6:∀l:List UInt8,uw (nq l)=some (l.map fun b => .int .u8 (Int.ofNat b.toNat)):=by
 intro l
 induction l with
 | nil=>rfl
 | cons b l ih=>simp only [nq,uw,ih,List.map_cons]
theorem AY {P:Program} {W:World} {name:String} {g:Nat} {cs:Array Value} {l:List AV} (hg:P.globalNamed name=some g) (h:W.var? P name=some cs) (hl:uw l=some cs.toList):dJ (td W) [(g,l)]:=by
 unfold World.var? at h
 rw [hg] at h
 simp only [Option.bind_some] at h
 split at h
 ·rename_i cs' e fz hb
  cases h
  exact ⟨⟨cs.toList,[],e,fz,hl,by rw [List.append_nil];exact hb⟩,trivial⟩
 ·cases h
end
end Go.Proofs.YtjabmipkllkfbaaGreatDoor.Vc
