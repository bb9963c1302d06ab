/-
  Contracts, by their trees; Contracts, by their trees; Contracts, by their trees; Contracts, by their trees; Contracts, by their trees.
-/
import Derived.Test.YtjabmipkllkfbaaGreatDoorZH
import Derived.Test.YtjabmipkllkfbaaGreatDoorZG
import Derived.Test.YtjabmipkllkfbaaGreatDoorZF
import Derived.Test.YtjabmipkllkfbaaGreatDoorZI
set_option linter.unusedVariables false
set_option linter.unusedSimpArgs false
set_option maxHeartbeats 4000000
namespace Go.Proofs.YtjabmipkllkfbaaGreatDoor.Vc
section
abbrev kq (z:Int):Prop:=0<=z/\z<=18446744073709551615
theorem kw (k:IntKind) (z:Int):k.min<=k.wrap z/\k.wrap z<=k.max:=by
 cases k<;>simp [IntKind.min,IntKind.max,IntKind.wrap,IntKind.signed,IntKind.bits]<;>(try split)<;>omega
theorem gc (z:Int):kq (IntKind.u64.wrap z):=kw .u64 z
theorem cT (x y:Int):kq (aq .mul .u64 x y):=kw .u64 _
theorem pE (x y:Int):kq (aq .and .u64 x y):=kw .u64 _
theorem mQ (x y:Int):kq (aq .xor .u64 x y):=kw .u64 _
theorem Ie {x:Int} (h:0<=x) (s:Nat) (hs:s<=64):aq .shr .u64 x (s:Int)=x / ((2 ^ s:Nat):Int):=by
 show x.fdiv (2 ^ (min (s:Int).toNat 64))=_
 rw [Int.toNat_natCast,Nat.min_eq_left hs,Int.fdiv_eq_ediv_of_nonneg _ (Int.le_of_lt (Int.pow_pos (by decide)))]
 rw [Int.natCast_pow]
 rfl
theorem cq {x:Int} (h:kq x) (s:Nat) (hs:s<=64):kq (aq .shr .u64 x (s:Int)):=by
 rw [Ie h.1 s hs]
 have hp:(0:Int)<=((2 ^ s:Nat):Int):=Int.natCast_nonneg _
 have h1:=Int.ediv_nonneg h.1 hp
 have h2:=Int.ediv_le_self ((2 ^ s:Nat):Int) h.1
 have h3:=h.2
 exact ⟨h1,by omega⟩
theorem yH {x:Int} (h:kq x):aq .and .u64 x 4294967295=x % 4294967296:=by
 obtain ⟨n,rfl⟩:=Int.eq_ofNat_of_zero_le h.1
 have hn:n<18446744073709551616:=by have:=h.2;omega
 show IntKind.u64.wrap (BitVec.ofInt 64 (n:Int) &&& BitVec.ofInt 64 4294967295).toNat=_
 have e1:BitVec.ofInt 64 (n:Int)=BitVec.ofNat 64 n:=BitVec.ofInt_natCast ..
 have e2:BitVec.ofInt 64 4294967295=BitVec.ofNat 64 4294967295:=BitVec.ofInt_natCast 64 4294967295
 rw [e1,e2,BitVec.toNat_and,BitVec.toNat_ofNat,BitVec.toNat_ofNat,Nat.mod_eq_of_lt hn,Nat.mod_eq_of_lt (by decide:4294967295<2 ^ 64)]
 have e3:n &&& 4294967295=n % 4294967296:=Nat.and_two_pow_sub_one_eq_mod n 32
 rw [e3,hD (by show (0:Int)<=_;omega) (by show ((n % 4294967296:Nat):Int)<=18446744073709551615;omega)]
 omega
theorem oP {x y:Int} (h0:0<=x*y) (h1:x*y<=18446744073709551615):aq .mul .u64 x y=x*y:=by
 show IntKind.u64.wrap (x*y)=x*y
 exact hD h0 h1
theorem pq {x:Int} (h0:0<=x) (h1:x<=18446744073709551615):IntKind.u64.wrap x=x:=hD h0 h1
theorem lU {x y:Int} (hx:0<=x/\x<=4294967295) (hy:0<=y/\y<=4294967295):0<=x*y/\x*y<=18446744065119617025:=by
 refine ⟨Int.mul_nonneg hx.1 hy.1,?_⟩
 have:=Int.mul_le_mul hx.2 hy.2 hy.1 (by decide)
 omega
def np (x n:Int):Int:=x*n / 18446744073709551616
theorem DL {x n x2 x3 x4 x5 x6 x7 x8 x9 x10 x11 x12 x13 x14 x16:Int} (hx:kq x) (hn:kq n) (e2:x2=x % 4294967296) (e3:x3=x / 4294967296) (e4:x4=n % 4294967296) (e5:x5=n / 4294967296)
  (e6:x6=x2*x4) (e7:x7=x3*x4) (e8:x8=x6 / 4294967296) (e9:x9=x7+x8) (e10:x10=x9 % 4294967296) (e11:x11=x9 / 4294967296) (e12:x12=x2*x5) (e13:x13=x10+x12) (e14:x14=x3*x5) (e16:x16=x13 / 4294967296):x14+x11+x16=np x n:=by
 have a1:x=x3*4294967296+x2:=by omega
 have a2:n=x5*4294967296+x4:=by omega
 have key:x*n=x14*18446744073709551616+(x7+x12)*4294967296+x6:=by
  rw [e14,e7,e12,e6]
  conv=>lhs;rw [a1,a2]
  rw [Int.add_mul,Int.mul_add,Int.mul_add,Int.add_mul]
  have t1:x3*4294967296*(x5*4294967296)=x3*x5*18446744073709551616:=by
   rw [Int.mul_assoc,Int.mul_left_comm 4294967296,Int.mul_assoc];rfl
  have t2:x3*4294967296*x4=x3*x4*4294967296:=by rw [Int.mul_assoc,Int.mul_comm 4294967296,Int.mul_assoc]
  have t3:x2*(x5*4294967296)=x2*x5*4294967296:=by rw [Int.mul_assoc]
  rw [t1,t2,t3]
  omega
 unfold np
 rw [key]
 have b2:0<=x2/\x2<=4294967295:=by omega
 have b4:0<=x4/\x4<=4294967295:=by omega
 have m6:=lU b2 b4
 rw [<-e6] at m6
 clear key a1 a2
 generalize x*n=p at *
 omega
theorem Ck {x n:Int} (hx:kq x) (hn:kq n):kq (np x n)/\(n≠0->np x n<n):=by
 have h1:0<=x*n:=Int.mul_nonneg hx.1 hn.1
 have h2:x*n<=18446744073709551615*n:=Int.mul_le_mul_of_nonneg_right hx.2 hn.1
 unfold np
 have:=hn.2
 have:=hn.1
 generalize x*n=p at *
 exact ⟨⟨by omega,by omega⟩,fun h=>by omega⟩
def yL (s k:Int) (x:Int):Int:=aq .mul .u64 (aq .xor .u64 x (aq .shr .u64 x s)) k
def JI (x:Int):Int:=yL 31 1 (yL 27 10723151780598845931 (yL 30 13787848793156543929 x))
def sZ (x:Int) (m:Mem):Prop:=dJ m oH
def pY (x:Int) (m:Mem) (z:Int):Prop:=z=JI x
def EL:Sp:={ args:=[.i .u64],grp:=[none],res:=[.i .u64],rgrp:=[none],fn:=168,spec:=fun a0=>(sZ a0,pY a0) }
def Br:Prop:=∀m:Mem,∀x0:Int,IntKind.u64.min<=x0->x0<=IntKind.u64.max->sZ x0 m->
 (aJ BinOp.shr 30/\∀x1:Int,x1=aq BinOp.shr IntKind.u64 x0 30->(K.u64 x1)/\(aJ BinOp.xor x1/\∀x2:Int,x2=aq BinOp.xor IntKind.u64 x0 x1->(K.u64 x2)/\(aJ BinOp.mul 13787848793156543929/\∀x3:Int,x3=aq BinOp.mul IntKind.u64 x2 13787848793156543929->(K.u64 x3)/\(aJ BinOp.shr 27/\∀x4:Int,x4=aq BinOp.shr IntKind.u64 x3 27->(K.u64 x4)/\(aJ BinOp.xor x4/\∀x5:Int,x5=aq BinOp.xor IntKind.u64 x3 x4->(K.u64 x5)/\(aJ BinOp.mul 10723151780598845931/\∀x6:Int,x6=aq BinOp.mul IntKind.u64 x5 10723151780598845931->(K.u64 x6)/\(aJ BinOp.shr 31/\∀x7:Int,x7=aq BinOp.shr IntKind.u64 x6 31->(K.u64 x7)/\(aJ BinOp.xor x7/\∀x8:Int,x8=aq BinOp.xor IntKind.u64 x6 x7->(K.u64 x8)/\(aJ BinOp.mul 1/\∀x9:Int,x9=aq BinOp.mul IntKind.u64 x8 1->(K.u64 x9)/\((K.u64 x9)/\pY x0 m x9))))))))))
theorem G6:Br:=by
 intro m x h1 h2 _
 have hx:kq x:=⟨h1,h2⟩
 refine ⟨(by show (0:Int)<=30;decide),fun x1 e1=>⟨by rw [e1];exact cq hx 30 (by decide),trivial,fun x2 e2=>⟨by rw [e2];exact mQ _ _,trivial,fun x3 e3=>⟨by rw [e3];exact cT _ _,(by show (0:Int)<=27;decide),fun x4 e4=>⟨by rw [e4];exact cq (by rw [e3];exact cT _ _) 27 (by decide),trivial,fun x5 e5=>⟨by rw [e5];exact mQ _ _,trivial,fun x6 e6=>⟨by rw [e6];exact cT _ _,(by show (0:Int)<=31;decide),fun x7 e7=>⟨by rw [e7];exact cq (by rw [e6];exact cT _ _) 31 (by decide),trivial,fun x8 e8=>⟨by rw [e8];exact mQ _ _,trivial,fun x9 e9 => ?_⟩⟩⟩⟩⟩⟩⟩⟩⟩
 have hr:kq x9:=by rw [e9];exact cT _ _
 refine ⟨hr,hr,?_⟩
 show x9=JI x
 rw [e9,e8,e7,e6,e5,e4,e3,e2,e1]
 rfl
theorem G5:∀m,bG EL.args EL.spec fun r=>r.1 m->bg m oH:=fun m a h=>h.h
theorem G4:cI Tryz.prog EL:=
 Ay oH rfl (aZ [] trivial rfl) (bC _ []) 1000 EL _ rfl rfl G5 (Eq.mp (show Br=_ by kernel_rfl) G6)
def sY (x n:Int) (m:Mem):Prop:=True
def mG (x n:Int) (m:Mem) (z e:Int):Prop:=(n=0->z=0/\e=2)/\(n≠0->z=np x n/\e=0)
def IX:Sp:={ args:=[.i .u64,.i .u64],grp:=[none,none],res:=[.i .u64,.i .i64],rgrp:=[none,none],fn:=167,spec:=fun a0 a1=>(sY a0 a1,mG a0 a1) }
def Bq:Prop:=∀m:Mem,∀x0:Int,IntKind.u64.min<=x0->x0<=IntKind.u64.max->∀x1:Int,IntKind.u64.min<=x1->x1<=IntKind.u64.max->sY x0 x1 m->
 ((x1=0->
 ((K.u64 0)/\(K.i64 2)/\mG x0 x1 m 0 2))/\
 (x1≠0->
 (aJ BinOp.and 4294967295/\∀x2:Int,x2=aq BinOp.and IntKind.u64 x0 4294967295->(K.u64 x2)/\(aJ BinOp.shr 32/\∀x3:Int,x3=aq BinOp.shr IntKind.u64 x0 32->(K.u64 x3)/\(aJ BinOp.and 4294967295/\∀x4:Int,x4=aq BinOp.and IntKind.u64 x1 4294967295->(K.u64 x4)/\(aJ BinOp.shr 32/\∀x5:Int,x5=aq BinOp.shr IntKind.u64 x1 32->(K.u64 x5)/\(aJ BinOp.mul x4/\∀x6:Int,x6=aq BinOp.mul IntKind.u64 x2 x4->(K.u64 x6)/\(aJ BinOp.mul x4/\∀x7:Int,x7=aq BinOp.mul IntKind.u64 x3 x4->(K.u64 x7)/\(aJ BinOp.shr 32/\∀x8:Int,x8=aq BinOp.shr IntKind.u64 x6 32->(K.u64 x8)/\(∀x9:Int,x9=IntKind.u64.wrap (x7+x8)->IntKind.u64.min<=x9->x9<=IntKind.u64.max->(aJ BinOp.and 4294967295/\∀x10:Int,x10=aq BinOp.and IntKind.u64 x9 4294967295->(K.u64 x10)/\(aJ BinOp.shr 32/\∀x11:Int,x11=aq BinOp.shr IntKind.u64 x9 32->(K.u64 x11)/\(aJ BinOp.mul x5/\∀x12:Int,x12=aq BinOp.mul IntKind.u64 x2 x5->(K.u64 x12)/\(∀x13:Int,x13=IntKind.u64.wrap (x10+x12)->IntKind.u64.min<=x13->x13<=IntKind.u64.max->(aJ BinOp.mul x5/\∀x14:Int,x14=aq BinOp.mul IntKind.u64 x3 x5->(K.u64 x14)/\(∀x15:Int,x15=IntKind.u64.wrap (x14+x11)->IntKind.u64.min<=x15->x15<=IntKind.u64.max->(aJ BinOp.shr 32/\∀x16:Int,x16=aq BinOp.shr IntKind.u64 x13 32->(K.u64 x16)/\(∀x17:Int,x17=IntKind.u64.wrap (x15+x16)->IntKind.u64.min<=x17->x17<=IntKind.u64.max->(aJ BinOp.mul x1/\∀x18:Int,x18=aq BinOp.mul IntKind.u64 x0 x1->(K.u64 x18)/\((K.u64 x17)/\(K.i64 0)/\mG x0 x1 m x17 0))))))))))))))))))))
theorem G3:Bq:=by
 intro m x a1 a2 n b1 b2 _
 have hx:kq x:=⟨a1,a2⟩
 have hn:kq n:=⟨b1,b2⟩
 have k0:IntKind.u64.min<=0/\0<=IntKind.u64.max:=by constructor<;>decide
 refine ⟨fun h=>⟨k0,by constructor<;>decide,fun _=>⟨rfl,rfl⟩,fun g=>(g h).elim⟩,fun h => ?_⟩
 refine ⟨trivial,?_⟩
 intro x2 e2
 refine ⟨by rw [e2];exact pE _ _,?_⟩
 refine ⟨(by show (0:Int)<=32;decide),?_⟩
 intro x3 e3
 refine ⟨by rw [e3];exact cq hx 32 (by decide),?_⟩
 refine ⟨trivial,?_⟩
 intro x4 e4
 refine ⟨by rw [e4];exact pE _ _,?_⟩
 refine ⟨(by show (0:Int)<=32;decide),?_⟩
 intro x5 e5
 refine ⟨by rw [e5];exact cq hn 32 (by decide),?_⟩
 refine ⟨trivial,?_⟩
 intro x6 e6
 refine ⟨by rw [e6];exact cT _ _,?_⟩
 refine ⟨trivial,?_⟩
 intro x7 e7
 refine ⟨by rw [e7];exact cT _ _,?_⟩
 refine ⟨(by show (0:Int)<=32;decide),?_⟩
 intro x8 e8
 refine ⟨by rw [e8];exact cq (by rw [e6];exact cT _ _) 32 (by decide),?_⟩
 intro x9 e9 r9 s9
 refine ⟨trivial,?_⟩
 intro x10 e10
 refine ⟨by rw [e10];exact pE _ _,?_⟩
 refine ⟨(by show (0:Int)<=32;decide),?_⟩
 intro x11 e11
 refine ⟨by rw [e11];exact cq ⟨r9,s9⟩ 32 (by decide),?_⟩
 refine ⟨trivial,?_⟩
 intro x12 e12
 refine ⟨by rw [e12];exact cT _ _,?_⟩
 intro x13 e13 r13 s13
 refine ⟨trivial,?_⟩
 intro x14 e14
 refine ⟨by rw [e14];exact cT _ _,?_⟩
 intro x15 e15 r15 s15
 refine ⟨(by show (0:Int)<=32;decide),?_⟩
 intro x16 e16
 refine ⟨by rw [e16];exact cq ⟨r13,s13⟩ 32 (by decide),?_⟩
 intro x17 e17 r17 s17
 refine ⟨trivial,?_⟩
 intro x18 e18
 refine ⟨by rw [e18];exact cT _ _,?_⟩
 refine ⟨⟨r17,s17⟩,by constructor<;>decide,fun g=>(h g).elim,fun _=>⟨?_,rfl⟩⟩
 have sh:∀z:Int,0<=z->aq .shr .u64 z 32=z / 4294967296:=fun z hz=>Ie hz 32 (by decide)
 rw [yH hx] at e2
 rw [sh x hx.1] at e3
 rw [yH hn] at e4
 rw [sh n hn.1] at e5
 have hx2:=hx.2;have hn2:=hn.2;have hx1:=hx.1;have hn1:=hn.1
 have b2:0<=x2/\x2<=4294967295:=by omega
 have b3:0<=x3/\x3<=4294967295:=by omega
 have b4:0<=x4/\x4<=4294967295:=by omega
 have b5:0<=x5/\x5<=4294967295:=by omega
 have m6:=lU b2 b4
 have m7:=lU b3 b4
 have m12:=lU b2 b5
 have m14:=lU b3 b5
 rw [oP m6.1 (by omega)] at e6
 rw [oP m7.1 (by omega)] at e7
 rw [oP m12.1 (by omega)] at e12
 rw [oP m14.1 (by omega)] at e14
 rw [<-e6] at m6
 rw [<-e7] at m7
 rw [<-e12] at m12
 rw [<-e14] at m14
 rw [sh x6 m6.1] at e8
 rw [pq (by omega) (by omega)] at e9
 rw [yH ⟨r9,s9⟩] at e10
 have r9':(0:Int)<=x9:=r9
 have s9':x9<=18446744073709551615:=s9
 rw [sh x9 r9'] at e11
 rw [pq (by omega) (by omega)] at e13
 have r13':(0:Int)<=x13:=r13
 rw [sh x13 r13'] at e16
 have key:=DL hx hn e2 e3 e4 e5 e6 e7 e8 e9 e10 e11 e12 e13 e14 e16
 have kr:=(Ck hx hn).1
 rw [pq (by omega) (by omega)] at e15
 rw [e17,e15,key]
 exact pq kr.1 kr.2
theorem G2:cI Tryz.prog IX:=
 cX (aZ [] trivial rfl) (bC _ []) 1000 IX _ rfl rfl (Eq.mp (show Bq=_ by kernel_rfl) G3)
end
section
def IM (h b:Int):Int:=aq .mul .u64 (aq .xor .u64 h b) 1099511628211
def uM (h:Int) (bs:List Int):Int:=bs.foldl IM h
theorem sN (h:Int) (bs:List Int) (b:Int):uM h (bs++[b])=IM (uM h bs) b:=by unfold uM;rw [List.foldl_append];rfl
theorem uN {h:Int} (hh:kq h) (bs:List Int):kq (uM h bs):=by
 rcases List.eq_nil_or_concat bs with e | ⟨l,b,e⟩
 ·rw [e];exact hh
 ·rw [e,List.concat_eq_append,sN];exact cT _ _
def JU (s:List UInt8):List Int:=s.map fun b=>(b.toNat:Int)
def CB (h:Int) (s:List UInt8):Int:=uM h (JU s)
def qL (n:Int) (i:Nat):Int:=IntKind.u8.wrap (aq .shr .u64 (IntKind.u64.wrap n) ((8*i:Nat):Int))
def vT (n:Int):List Int:=[qL n 0,qL n 1,qL n 2,qL n 3,qL n 4,qL n 5,qL n 6,qL n 7]
def Ek (h n:Int):Int:=uM h (vT n)
theorem JT (z:Int):0<=IntKind.u8.wrap z/\IntKind.u8.wrap z<=255:=kw .u8 z
theorem yM (n:Int):∀x∈vT n,0<=x/\x<=255:=by
 intro x hx
 simp only [vT,List.mem_cons,List.not_mem_nil,or_false] at hx
 rcases hx with rfl | rfl | rfl | rfl | rfl | rfl | rfl | rfl<;>exact JT _
theorem Cl:∀{ns:List Int},(∀x∈ns,0<=x/\x<=255)->JU (ns.map fun n=>UInt8.ofNat n.toNat)=ns:=by
 intro ns
 induction ns with
 | nil=>intro _;rfl
 | cons x ns ih=>
  intro h
  obtain ⟨h1,h2⟩:=h x (List.mem_cons_self ..)
  have:=ih (fun y hy=>h y (List.mem_cons_of_mem _ hy))
  simp only [JU,List.map_cons] at this ⊢
  rw [this]
  congr 1
  rw [UInt8.toNat_ofNat']
  omega
theorem xU {s:List UInt8} {n0:Nat} {r0:List Value} {p0:Addr} {h0:Int} {Q:Int->Prop} (hl:((s.length:Nat):Int)<=9223372036854775807) (hn:n0=s.length) (hr:r0=s.map (fun b=>Value.int IntKind.u8 (b.toNat:Int))) (hh:kq h0) (hQ:Q (CB h0 s)) :
  (∃ F1 : Int -> Int -> Prop × Nat, ((K.i64 0) /\ (K.u64 h0) /\ (F1 0 h0).1) /\
   ∀x2:Int,IntKind.i64.min<=x2->x2<=IntKind.i64.max->∀x3:Int,IntKind.u64.min<=x3->x3<=IntKind.u64.max->(F1 x2 x3).1->
   ((x2<(n0:Int)->
   (0<=x2/\((some p0)≠none/\((0<=(0+x2)/\(0+x2)+1<=(r0.length:Int))/\(∃x4:Int,br r0 (0+x2)=some (Value.int IntKind.u8 x4)/\(K.u8 x4)/\(aJ BinOp.xor x4/\∀x5:Int,x5=aq BinOp.xor IntKind.u64 x3 x4->(K.u64 x5)/\(aJ BinOp.mul 1099511628211/\∀x6:Int,x6=aq BinOp.mul IntKind.u64 x5 1099511628211->(K.u64 x6)/\((x2+1)<=9223372036854775807/\((IntKind.i64.min<=(x2+1)/\(x2+1)<=IntKind.i64.max)/\(K.u64 x6)/\((F1 (x2+1) x6).1/\(F1 (x2+1) x6).2<(F1 x2 x3).2))))))))))/\
   ((n0:Int)<=x2->Q x3))):=by
 subst hn
 refine ⟨fun x2 x3=>(∃i:Nat,x2=i/\i<=s.length/\x3=CB h0 (s.take i),((s.length:Int)-x2).toNat),⟨by constructor<;>decide,hh,0,rfl,Nat.zero_le _,rfl⟩,?_⟩
 rintro x2 k1 k2 x3 k3 k4 ⟨i,rfl,hi,rfl⟩
 refine ⟨fun hlt => ?_,fun hge => ?_⟩
 ·have hil:i<s.length:=by omega
  have hg:r0[i]? = some (.int .u8 ((s[i].toNat:Nat):Int)):=by rw [hr,List.getElem?_map,List.getElem?_eq_getElem hil];rfl
  have hb:s[i].toNat<256:=s[i].toNat_lt
  have hrl:r0.length=s.length:=by rw [hr,List.length_map]
  refine ⟨by omega,by simp,⟨by omega,by omega⟩,((s[i].toNat:Nat):Int),(by show br r0 (0+(i:Int))=_;rw [Int.zero_add];show (match r0[i]? with | some v=>bK v | none=>none)=_;rw [hg];rfl),⟨by show (0:Int)<=_;omega,by show ((s[i].toNat:Nat):Int)<=255;omega⟩,trivial,fun x5 e5=>⟨by rw [e5];exact mQ _ _,trivial,fun x6 e6=>⟨by rw [e6];exact cT _ _,by omega,⟨by show (-9223372036854775808:Int)<=_;omega,by show _<=(9223372036854775807:Int);omega⟩,by rw [e6];exact cT _ _,⟨i+1,by omega,by omega,?_⟩,by first | omega | (simp only;omega)⟩⟩⟩
  rw [e6,e5]
  show IM _ _=_
  rw [<-List.take_append_getElem hil]
  unfold CB JU
  rw [List.map_append,List.map_cons,List.map_nil,sN]
 ·obtain rfl:i=s.length:=by omega
  rw [List.take_length]
  exact hQ
def sQ (s:List UInt8) (m:Mem):Prop:=s.length<=9223372036854775807
def pQ (s:List UInt8) (m:Mem) (z:Int):Prop:=z=CB 14695981039346656037 s
def IP:Sp:={ args:=[.s],grp:=[none],res:=[.i .u64],rgrp:=[none],fn:=170,spec:=fun a0=>(sQ a0,pQ a0) }
def A8:Prop:=∀m:Mem,∀s0:List UInt8,sQ s0 m->
 (((s0.length:Nat):Int)<=9223372036854775807/\∀(p0:Addr) (n0 c0:Nat) (r0:List Value),n0=s0.length->n0<=c0->c0<=9223372036854775807->r0=(s0).map (fun b=>Value.int IntKind.u8 (b.toNat:Int))->(∃F1:Int->Int->Prop×Nat,((K.i64 0)/\(K.u64 14695981039346656037)/\(F1 0 14695981039346656037).1)/\
 ∀x2:Int,mi<=x2->x2<=ma->∀x3:Int,IntKind.u64.min<=x3->x3<=IntKind.u64.max->(F1 x2 x3).1->
 ((x2<(n0:Int)->
 (0<=x2/\((some p0)≠none/\((0<=(0+x2)/\(0+x2)+1<=(r0.length:Int))/\(∃x4:Int,br r0 (0+x2)=some (Value.int IntKind.u8 x4)/\(K.u8 x4)/\(aJ BinOp.xor x4/\∀x5:Int,x5=aq BinOp.xor IntKind.u64 x3 x4->(K.u64 x5)/\(aJ BinOp.mul 1099511628211/\∀x6:Int,x6=aq BinOp.mul IntKind.u64 x5 1099511628211->(K.u64 x6)/\((x2+1)<=9223372036854775807/\((mi<=(x2+1)/\(x2+1)<=ma)/\(K.u64 x6)/\((F1 (x2+1) x6).1/\(F1 (x2+1) x6).2<(F1 x2 x3).2))))))))))/\
 ((n0:Int)<=x2->
 ((K.u64 x3)/\pQ s0 m x3)))))
theorem GH:A8:=by
 intro m s hs
 have hs:s.length<=9223372036854775807:=hs
 refine ⟨by omega,fun p0 n0 c0 r0 e1 _ _ e2=>xU (by omega) e1 e2 (by constructor<;>decide) ⟨uN (by constructor<;>decide) _,rfl⟩⟩
theorem GG:cI Tryz.prog IP:=
 cX (aZ [] trivial rfl) (bC _ [⟨(20,2),[(0,0,.i .u64)],[],[],[]⟩]) 1000 IP _ rfl rfl (Eq.mp (show A8=_ by kernel_rfl) GH)
def sP (h n:Int) (m:Mem):Prop:=True
def pP (h n:Int) (m:Mem) (z:Int):Prop:=z=Ek h n
def IL:Sp:={ args:=[.i .u64,.i .i64],grp:=[none,none],res:=[.i .u64],rgrp:=[none],fn:=169,spec:=fun a0 a1=>(sP a0 a1,pP a0 a1) }
def A4:Prop:=∀m:Mem,∀x0:Int,IntKind.u64.min<=x0->x0<=IntKind.u64.max->∀x1:Int,mi<=x1->x1<=ma->sP x0 x1 m->
 (∀x2:Int,x2=IntKind.u64.wrap x1->IntKind.u64.min<=x2->x2<=IntKind.u64.max->(aJ BinOp.shr 0/\∀x3:Int,x3=aq BinOp.shr IntKind.u64 x2 0->(K.u64 x3)/\(∀x4:Int,x4=IntKind.u8.wrap x3->IntKind.u8.min<=x4->x4<=IntKind.u8.max->(∀x5:Int,x5=IntKind.u64.wrap x1->IntKind.u64.min<=x5->x5<=IntKind.u64.max->(aJ BinOp.shr 8/\∀x6:Int,x6=aq BinOp.shr IntKind.u64 x5 8->(K.u64 x6)/\(∀x7:Int,x7=IntKind.u8.wrap x6->IntKind.u8.min<=x7->x7<=IntKind.u8.max->(∀x8:Int,x8=IntKind.u64.wrap x1->IntKind.u64.min<=x8->x8<=IntKind.u64.max->(aJ BinOp.shr 16/\∀x9:Int,x9=aq BinOp.shr IntKind.u64 x8 16->(K.u64 x9)/\(∀x10:Int,x10=IntKind.u8.wrap x9->IntKind.u8.min<=x10->x10<=IntKind.u8.max->(∀x11:Int,x11=IntKind.u64.wrap x1->IntKind.u64.min<=x11->x11<=IntKind.u64.max->(aJ BinOp.shr 24/\∀x12:Int,x12=aq BinOp.shr IntKind.u64 x11 24->(K.u64 x12)/\(∀x13:Int,x13=IntKind.u8.wrap x12->IntKind.u8.min<=x13->x13<=IntKind.u8.max->(∀x14:Int,x14=IntKind.u64.wrap x1->IntKind.u64.min<=x14->x14<=IntKind.u64.max->(aJ BinOp.shr 32/\∀x15:Int,x15=aq BinOp.shr IntKind.u64 x14 32->(K.u64 x15)/\(∀x16:Int,x16=IntKind.u8.wrap x15->IntKind.u8.min<=x16->x16<=IntKind.u8.max->(∀x17:Int,x17=IntKind.u64.wrap x1->IntKind.u64.min<=x17->x17<=IntKind.u64.max->(aJ BinOp.shr 40/\∀x18:Int,x18=aq BinOp.shr IntKind.u64 x17 40->(K.u64 x18)/\(∀x19:Int,x19=IntKind.u8.wrap x18->IntKind.u8.min<=x19->x19<=IntKind.u8.max->(∀x20:Int,x20=IntKind.u64.wrap x1->IntKind.u64.min<=x20->x20<=IntKind.u64.max->(aJ BinOp.shr 48/\∀x21:Int,x21=aq BinOp.shr IntKind.u64 x20 48->(K.u64 x21)/\(∀x22:Int,x22=IntKind.u8.wrap x21->IntKind.u8.min<=x22->x22<=IntKind.u8.max->(∀x23:Int,x23=IntKind.u64.wrap x1->IntKind.u64.min<=x23->x23<=IntKind.u64.max->(aJ BinOp.shr 56/\∀x24:Int,x24=aq BinOp.shr IntKind.u64 x23 56->(K.u64 x24)/\(∀x25:Int,x25=IntKind.u8.wrap x24->IntKind.u8.min<=x25->x25<=IntKind.u8.max->(∃ns:List Int,[(Value.int IntKind.u8 x4),(Value.int IntKind.u8 x7),(Value.int IntKind.u8 x10),(Value.int IntKind.u8 x13),(Value.int IntKind.u8 x16),(Value.int IntKind.u8 x19),(Value.int IntKind.u8 x22),(Value.int IntKind.u8 x25)]=ns.map (Value.int IntKind.u8)/\∀s0:List UInt8,s0=ns.map (fun n=>UInt8.ofNat n.toNat)->(((s0.length:Nat):Int)<=9223372036854775807/\∀(p0:Addr) (n0 c0:Nat) (r0:List Value),n0=s0.length->n0<=c0->c0<=9223372036854775807->r0=(s0).map (fun b=>Value.int IntKind.u8 (b.toNat:Int))->(∃F1:Int->Int->Prop×Nat,((K.i64 0)/\(K.u64 x0)/\(F1 0 x0).1)/\
 ∀x28:Int,mi<=x28->x28<=ma->∀x29:Int,IntKind.u64.min<=x29->x29<=IntKind.u64.max->(F1 x28 x29).1->
 ((x28<(n0:Int)->
 (0<=x28/\((some p0)≠none/\((0<=(0+x28)/\(0+x28)+1<=(r0.length:Int))/\(∃x30:Int,br r0 (0+x28)=some (Value.int IntKind.u8 x30)/\(K.u8 x30)/\(aJ BinOp.xor x30/\∀x31:Int,x31=aq BinOp.xor IntKind.u64 x29 x30->(K.u64 x31)/\(aJ BinOp.mul 1099511628211/\∀x32:Int,x32=aq BinOp.mul IntKind.u64 x31 1099511628211->(K.u64 x32)/\((x28+1)<=9223372036854775807/\((mi<=(x28+1)/\(x28+1)<=ma)/\(K.u64 x32)/\((F1 (x28+1) x32).1/\(F1 (x28+1) x32).2<(F1 x28 x29).2))))))))))/\
 ((n0:Int)<=x28->
 ((K.u64 x29)/\pP x0 x1 m x29))))))))))))))))))))))))))))))
theorem GD:A4:=by
 intro m h h1 h2 n n1 n2 _
 have hh:kq h:=⟨h1,h2⟩
 intro a0 e0 _ _
 refine ⟨(by show (0:Int)<=0;decide),?_⟩;intro b0 f0;refine ⟨by rw [f0,e0];exact cq (gc _) 0 (by decide),?_⟩;intro d0 g0 _ _ a1 e1 _ _
 refine ⟨(by show (0:Int)<=8;decide),?_⟩;intro b1 f1;refine ⟨by rw [f1,e1];exact cq (gc _) 8 (by decide),?_⟩;intro d1 g1 _ _ a2 e2 _ _
 refine ⟨(by show (0:Int)<=16;decide),?_⟩;intro b2 f2;refine ⟨by rw [f2,e2];exact cq (gc _) 16 (by decide),?_⟩;intro d2 g2 _ _ a3 e3 _ _
 refine ⟨(by show (0:Int)<=24;decide),?_⟩;intro b3 f3;refine ⟨by rw [f3,e3];exact cq (gc _) 24 (by decide),?_⟩;intro d3 g3 _ _ a4 e4 _ _
 refine ⟨(by show (0:Int)<=32;decide),?_⟩;intro b4 f4;refine ⟨by rw [f4,e4];exact cq (gc _) 32 (by decide),?_⟩;intro d4 g4 _ _ a5 e5 _ _
 refine ⟨(by show (0:Int)<=40;decide),?_⟩;intro b5 f5;refine ⟨by rw [f5,e5];exact cq (gc _) 40 (by decide),?_⟩;intro d5 g5 _ _ a6 e6 _ _
 refine ⟨(by show (0:Int)<=48;decide),?_⟩;intro b6 f6;refine ⟨by rw [f6,e6];exact cq (gc _) 48 (by decide),?_⟩;intro d6 g6 _ _ a7 e7 _ _
 refine ⟨(by show (0:Int)<=56;decide),?_⟩;intro b7 f7;refine ⟨by rw [f7,e7];exact cq (gc _) 56 (by decide),?_⟩;intro d7 g7 _ _
 refine ⟨vT n,?_,?_⟩
 ·rw [g0,g1,g2,g3,g4,g5,g6,g7,f0,f1,f2,f3,f4,f5,f6,f7,e0,e1,e2,e3,e4,e5,e6,e7]
  rfl
 ·intro s es
  have hl:s.length=8:=by rw [es,List.length_map];rfl
  refine ⟨by omega,fun p0 n0 c0 r0 q1 _ _ q2=>xU (by omega) q1 q2 hh ⟨uN hh _,?_⟩⟩
  show CB h s=Ek h n
  unfold CB Ek
  rw [es,Cl (yM n)]
theorem GC:cI Tryz.prog IL:=
 cX (aZ [] trivial rfl) (bC _ [⟨(20,2),[(0,0,.i .u64)],[],[],[]⟩]) 1000 IL _ rfl rfl (Eq.mp (show A4=_ by kernel_rfl) GD)
end
section
def kM (s p c:Int):Int:=if 0<c then min (1+(253402300799-s) / p) c else 1+(253402300799-s) / p
def gU (s p c t:Int):Int:=if t<=s then 0 else min (kM s p c) ((t-s-1) / p+1)
def Gq (s p c t:Int):Prop:=0<=s/\s<=253402300799/\1<=p/\p<=68719476736/\0<=c/\c<=1000000/\0<=t/\t<=253402300799
def gg (s p c t:Int):Bool:=decide (gU s p c t<kM s p c/\s+gU s p c t*p=t)
theorem vH {s p c t:Int} (h:Gq s p c t):0<=(253402300799-s) / p/\(253402300799-s) / p<=253402300799/\1<=kM s p c/\kM s p c<=253402300800/\0<=gU s p c t/\gU s p c t<=kM s p c:=by
 obtain ⟨h0,h1,h2,h3,h4,h5,h6,h7⟩:=h
 have a0:0<=(253402300799-s) / p:=Int.ediv_nonneg (by omega) (by omega)
 have a1:(253402300799-s) / p<=253402300799-s:=Int.ediv_le_self _ (by omega)
 have hn:1<=kM s p c/\kM s p c<=253402300800:=by unfold kM;split<;>omega
 refine ⟨a0,by omega,hn.1,hn.2,?_,?_⟩
 ·unfold gU
  split
  ·omega
  ·have:0<=(t-s-1) / p:=Int.ediv_nonneg (by omega) (by omega)
   omega
 ·unfold gU;split<;>omega
theorem yv {s p c t k:Int} (h:Gq s p c t) (h0:0<=k) (hk:k<kM s p c):0<=k*p/\k*p<=253402300799-s:=by
 obtain ⟨g0,g1,g2,g3,g4,g5,g6,g7⟩:=h
 have h1:k<=(253402300799-s) / p:=by unfold kM at hk;split at hk<;>omega
 refine ⟨Int.mul_nonneg h0 (by omega),?_⟩
 calc k*p<=(253402300799-s) / p*p:=Int.mul_le_mul_of_nonneg_right h1 (by omega)
  _<=_:=Int.ediv_mul_le _ (by omega)
theorem vJ {x p:Int} (h:0<=x) (hx:x<=253402300799) (hp:1<=p):aq BinOp.quo IntKind.i64 x p=x / p/\0<=x / p/\x / p<=253402300799:=by
 have a0:0<=x / p:=Int.ediv_nonneg h (by omega)
 have a1:x / p<=x:=Int.ediv_le_self _ h
 refine ⟨?_,a0,by omega⟩
 show IntKind.i64.wrap (x.tdiv p)=x / p
 rw [Int.tdiv_eq_ediv_of_nonneg h]
 exact hD (by rw [show IntKind.i64.min = -9223372036854775808 from rfl];omega) (by rw [IntKind.max_i64];omega)
def oz (s p c t:Int) (m:Mem):Prop:=Gq s p c t
def aR (s p c t:Int) (m:Mem) (r:Bool) (e:Int):Prop:=e=0/\r=gg s p c t
def sw (s p c t:Int) (m:Mem):Prop:=Gq s p c t
def aS (s p c t:Int) (m:Mem) (u:Int) (r:Bool) (e:Int):Prop:=e=0/\(if gU s p c (t+1)<kM s p c then r=true/\u=s+gU s p c (t+1)*p else r=false/\u=0)
def Gl:Sp:={ args:=[.i .i64,.i .i64,.i .i64,.i .i64],grp:=[some 3,none],res:=[.b,.i .i64],rgrp:=[none,none],fn:=160,spec:=fun a0 a1 a2 a3=>(oz a0 a1 a2 a3,aR a0 a1 a2 a3) }
def AH:Prop:=∀m:Mem,∀x0:Int,mi<=x0->x0<=ma->∀x1:Int,mi<=x1->x1<=ma->∀x2:Int,mi<=x2->x2<=ma->∀x3:Int,mi<=x3->x3<=ma->oz x0 x1 x2 x3 m->
 ((x0<0->
 ((K.i64 16)/\aR x0 x1 x2 x3 m false 16))/\
 (0<=x0->
 ((253402300799<x0->
 ((K.i64 16)/\aR x0 x1 x2 x3 m false 16))/\
 (x0<=253402300799->
 ((x1<1->
 ((K.i64 16)/\aR x0 x1 x2 x3 m false 16))/\
 (1<=x1->
 ((68719476736<x1->
 ((K.i64 16)/\aR x0 x1 x2 x3 m false 16))/\
 (x1<=68719476736->
 ((x2<0->
 ((K.i64 16)/\aR x0 x1 x2 x3 m false 16))/\
 (0<=x2->
 ((1000000<x2->
 ((K.i64 16)/\aR x0 x1 x2 x3 m false 16))/\
 (x2<=1000000->
 ((x3<0->
 ((K.i64 14)/\aR x0 x1 x2 x3 m false 14))/\
 (0<=x3->
 ((253402300799<x3->
 ((K.i64 14)/\aR x0 x1 x2 x3 m false 14))/\
 (x3<=253402300799->
 (aJ BinOp.quo x1/\∀x4:Int,x4=aq BinOp.quo IntKind.i64 (253402300799-x0) x1->(K.i64 x4)/\((1+x4)<=9223372036854775807/\((0<x2->
 (∀x5:Int,x5=(bif false then max (1+x4) x2 else min (1+x4) x2)->(K.i64 x5)/\((x3<=x0->
 ((x5<=0->
 ((K.i64 0)/\aR x0 x1 x2 x3 m false 0))/\
 (0<x5->
 ((K.i64 0)/\aR x0 x1 x2 x3 m (decide ((x0+(0*x1))=x3)) 0))))/\
 (x0<x3->
 (aJ BinOp.quo x1/\∀x6:Int,x6=aq BinOp.quo IntKind.i64 ((x3-x0)-1) x1->(K.i64 x6)/\((x6+1)<=9223372036854775807/\(∀x7:Int,x7=(bif false then max x5 (x6+1) else min x5 (x6+1))->(K.i64 x7)/\((x7<0->
 ((K.i64 0)/\aR x0 x1 x2 x3 m false 0))/\
 (0<=x7->
 ((x5<=x7->
 ((K.i64 0)/\aR x0 x1 x2 x3 m false 0))/\
 (x7<x5->
 ((x7*x1)<=9223372036854775807/\((x0+(x7*x1))<=9223372036854775807/\((K.i64 0)/\aR x0 x1 x2 x3 m (decide ((x0+(x7*x1))=x3)) 0))))))))))))))/\
 (x2<=0->
 ((x3<=x0->
 (((1+x4)<=0->
 ((K.i64 0)/\aR x0 x1 x2 x3 m false 0))/\
 (0<(1+x4)->
 ((K.i64 0)/\aR x0 x1 x2 x3 m (decide ((x0+(0*x1))=x3)) 0))))/\
 (x0<x3->
 (aJ BinOp.quo x1/\∀x5:Int,x5=aq BinOp.quo IntKind.i64 ((x3-x0)-1) x1->(K.i64 x5)/\((x5+1)<=9223372036854775807/\(∀x6:Int,x6=(bif false then max (1+x4) (x5+1) else min (1+x4) (x5+1))->(K.i64 x6)/\((x6<0->
 ((K.i64 0)/\aR x0 x1 x2 x3 m false 0))/\
 (0<=x6->
 (((1+x4)<=x6->
 ((K.i64 0)/\aR x0 x1 x2 x3 m false 0))/\
 (x6<(1+x4)->
 ((x6*x1)<=9223372036854775807/\((x0+(x6*x1))<=9223372036854775807/\((K.i64 0)/\aR x0 x1 x2 x3 m (decide ((x0+(x6*x1))=x3)) 0))))))))))))))))))))))))))))))))
theorem Gm:AH:=by
 intro m x0 _ _ x1 _ _ x2 _ _ x3 _ _ hv
 have hv:Gq x0 x1 x2 x3:=hv
 obtain ⟨n1,n2,n3,n4,n5,n6⟩:=vH hv
 have hm:∀k,0<=k->k<kM x0 x1 x2->0<=k*x1/\k*x1<=253402300799-x0:=fun k=>yv hv
 obtain ⟨g0,g1,g2,g3,g4,g5,g6,g7⟩:=hv
 have b2:IntKind.i64.min = -9223372036854775808:=rfl
 have b3:IntKind.i64.max=9223372036854775807:=rfl
 have dy:∀z:Int,-9223372036854775808<=z->z<=9223372036854775807->K.i64 z:=fun z h1 h2=>⟨(by rw [b2];omega:IntKind.i64.min<=_),(by rw [b3];omega:_<=IntKind.i64.max)⟩
 have kk:=dy 0 (by omega) (by omega)
 iterate 8 refine ⟨fun h=>by omega,fun _ => ?_⟩
 obtain ⟨q1,q2,q3⟩:=vJ (x:=253402300799-x0) (p:=x1) (by omega) (by omega) g2
 refine ⟨(by show x1≠0;omega),fun x4 hx4 => ?_⟩
 rw [q1] at hx4
 subst hx4
 have one:∀b:Bool,b=gg x0 x1 x2 x3->(K.i64 0/\aR x0 x1 x2 x3 m b 0):=fun b hb=>⟨kk,rfl,hb⟩
 have low:x3<=x0->gU x0 x1 x2 x3=0:=fun h=>by unfold gU;rw [if_pos h]
 have high:x0<x3->gU x0 x1 x2 x3=min (kM x0 x1 x2) ((x3-x0-1) / x1+1):=fun h=>by unfold gU;rw [if_neg (by omega)]
 have fin:∀n:Int,n=kM x0 x1 x2->((x3<=x0->
   ((n<=0->(K.i64 0/\aR x0 x1 x2 x3 m false 0))/\(0<n->(K.i64 0/\aR x0 x1 x2 x3 m (decide ((x0+(0*x1))=x3)) 0))))/\
   (x0<x3->(aJ BinOp.quo x1/\∀x6:Int,x6=aq BinOp.quo IntKind.i64 ((x3-x0)-1) x1->(K.i64 x6)/\((x6+1)<=9223372036854775807/\(∀x7:Int,x7=(bif false then max n (x6+1) else min n (x6+1))->(K.i64 x7)/\((x7<0->(K.i64 0/\aR x0 x1 x2 x3 m false 0))/\
   (0<=x7->((n<=x7->(K.i64 0/\aR x0 x1 x2 x3 m false 0))/\(x7<n->((x7*x1)<=9223372036854775807/\((x0+(x7*x1))<=9223372036854775807/\(K.i64 0/\aR x0 x1 x2 x3 m (decide ((x0+(x7*x1))=x3)) 0)))))))))))):=by
  intro n hn
  refine ⟨fun h=>⟨fun h'=>by omega,fun _=>one _ ?_⟩,fun h => ?_⟩
  ·unfold gg;rw [low h];simp only [Int.zero_mul,Int.add_zero,decide_eq_decide];omega
  ·obtain ⟨r1,r2,r3⟩:=vJ (x:=x3-x0-1) (p:=x1) (by omega) (by omega) g2
   refine ⟨(by show x1≠0;omega),fun x6 hx6 => ?_⟩
   rw [r1] at hx6
   subst hx6
   refine ⟨dy _ (by omega) (by omega),by omega,fun x7 hx7 => ?_⟩
   have h7:x7=gU x0 x1 x2 x3:=by rw [high h,<-hn];exact hx7
   refine ⟨dy _ (by omega) (by omega),fun h'=>by omega,fun _=>⟨fun h'=>one _ ?_,fun h' => ?_⟩⟩
   ·unfold gg;rw [<-h7];symm;simp only [decide_eq_false_iff_not];omega
   ·obtain ⟨m1,m2⟩:=hm x7 (by omega) (by omega)
    refine ⟨by omega,by omega,one _ ?_⟩
    unfold gg
    rw [<-h7]
    simp only [decide_eq_decide]
    omega
 refine ⟨dy _ (by omega) (by omega),by omega,fun h => ?_,fun h => ?_⟩
 ·intro x5 hx5
  have h5:x5=kM x0 x1 x2:=by unfold kM;rw [if_pos h];exact hx5
  exact ⟨dy _ (by omega) (by omega),fin x5 h5⟩
 ·exact fin _ (by unfold kM;rw [if_neg (by omega)])
theorem AJ:cI Tryz.prog Gl:=
 cX (aZ [] trivial rfl) (bC _ []) 1000 Gl _ rfl rfl (Eq.mp (show AH=_ by kernel_rfl) Gm)
def Gn:Sp:={ args:=[.i .i64,.i .i64,.i .i64,.i .i64],grp:=[some 3,none],res:=[.i .i64,.b,.i .i64],rgrp:=[none,none,none],fn:=162,spec:=fun a0 a1 a2 a3=>(sw a0 a1 a2 a3,aS a0 a1 a2 a3) }
def AK:Prop:=∀m:Mem,∀x0:Int,mi<=x0->x0<=ma->∀x1:Int,mi<=x1->x1<=ma->∀x2:Int,mi<=x2->x2<=ma->∀x3:Int,mi<=x3->x3<=ma->sw x0 x1 x2 x3 m->
 ((x0<0->
 ((K.i64 0)/\(K.i64 16)/\aS x0 x1 x2 x3 m 0 false 16))/\
 (0<=x0->
 ((253402300799<x0->
 ((K.i64 0)/\(K.i64 16)/\aS x0 x1 x2 x3 m 0 false 16))/\
 (x0<=253402300799->
 ((x1<1->
 ((K.i64 0)/\(K.i64 16)/\aS x0 x1 x2 x3 m 0 false 16))/\
 (1<=x1->
 ((68719476736<x1->
 ((K.i64 0)/\(K.i64 16)/\aS x0 x1 x2 x3 m 0 false 16))/\
 (x1<=68719476736->
 ((x2<0->
 ((K.i64 0)/\(K.i64 16)/\aS x0 x1 x2 x3 m 0 false 16))/\
 (0<=x2->
 ((1000000<x2->
 ((K.i64 0)/\(K.i64 16)/\aS x0 x1 x2 x3 m 0 false 16))/\
 (x2<=1000000->
 ((x3<0->
 ((K.i64 0)/\(K.i64 14)/\aS x0 x1 x2 x3 m 0 false 14))/\
 (0<=x3->
 ((253402300799<x3->
 ((K.i64 0)/\(K.i64 14)/\aS x0 x1 x2 x3 m 0 false 14))/\
 (x3<=253402300799->
 (aJ BinOp.quo x1/\∀x4:Int,x4=aq BinOp.quo IntKind.i64 (253402300799-x0) x1->(K.i64 x4)/\((1+x4)<=9223372036854775807/\((0<x2->
 (∀x5:Int,x5=(bif false then max (1+x4) x2 else min (1+x4) x2)->(K.i64 x5)/\(((x3+1)<=x0->
 ((x5<=0->
 ((K.i64 0)/\(K.i64 0)/\aS x0 x1 x2 x3 m 0 false 0))/\
 (0<x5->
 ((mi<=(x0+(0*x1))/\(x0+(0*x1))<=ma)/\(K.i64 0)/\aS x0 x1 x2 x3 m (x0+(0*x1)) true 0))))/\
 (x0<(x3+1)->
 (aJ BinOp.quo x1/\∀x6:Int,x6=aq BinOp.quo IntKind.i64 (((x3+1)-x0)-1) x1->(K.i64 x6)/\((x6+1)<=9223372036854775807/\(∀x7:Int,x7=(bif false then max x5 (x6+1) else min x5 (x6+1))->(K.i64 x7)/\((x7<0->
 ((K.i64 0)/\(K.i64 0)/\aS x0 x1 x2 x3 m 0 false 0))/\
 (0<=x7->
 ((x5<=x7->
 ((K.i64 0)/\(K.i64 0)/\aS x0 x1 x2 x3 m 0 false 0))/\
 (x7<x5->
 ((x7*x1)<=9223372036854775807/\((x0+(x7*x1))<=9223372036854775807/\((mi<=(x0+(x7*x1))/\(x0+(x7*x1))<=ma)/\(K.i64 0)/\aS x0 x1 x2 x3 m (x0+(x7*x1)) true 0))))))))))))))/\
 (x2<=0->
 (((x3+1)<=x0->
 (((1+x4)<=0->
 ((K.i64 0)/\(K.i64 0)/\aS x0 x1 x2 x3 m 0 false 0))/\
 (0<(1+x4)->
 ((mi<=(x0+(0*x1))/\(x0+(0*x1))<=ma)/\(K.i64 0)/\aS x0 x1 x2 x3 m (x0+(0*x1)) true 0))))/\
 (x0<(x3+1)->
 (aJ BinOp.quo x1/\∀x5:Int,x5=aq BinOp.quo IntKind.i64 (((x3+1)-x0)-1) x1->(K.i64 x5)/\((x5+1)<=9223372036854775807/\(∀x6:Int,x6=(bif false then max (1+x4) (x5+1) else min (1+x4) (x5+1))->(K.i64 x6)/\((x6<0->
 ((K.i64 0)/\(K.i64 0)/\aS x0 x1 x2 x3 m 0 false 0))/\
 (0<=x6->
 (((1+x4)<=x6->
 ((K.i64 0)/\(K.i64 0)/\aS x0 x1 x2 x3 m 0 false 0))/\
 (x6<(1+x4)->
 ((x6*x1)<=9223372036854775807/\((x0+(x6*x1))<=9223372036854775807/\((mi<=(x0+(x6*x1))/\(x0+(x6*x1))<=ma)/\(K.i64 0)/\aS x0 x1 x2 x3 m (x0+(x6*x1)) true 0))))))))))))))))))))))))))))))))
theorem Gp:AK:=by
 intro m x0 _ _ x1 _ _ x2 _ _ x3 _ _ hv
 have hv:Gq x0 x1 x2 x3:=hv
 obtain ⟨n1,n2,n3,n4,_,_⟩:=vH hv
 have hm:∀k,0<=k->k<kM x0 x1 x2->0<=k*x1/\k*x1<=253402300799-x0:=fun k=>yv hv
 obtain ⟨g0,g1,g2,g3,g4,g5,g6,g7⟩:=hv
 have b2:IntKind.i64.min = -9223372036854775808:=rfl
 have b3:IntKind.i64.max=9223372036854775807:=rfl
 have dy:∀z:Int,-9223372036854775808<=z->z<=9223372036854775807->K.i64 z:=fun z h1 h2=>⟨(by rw [b2];omega:IntKind.i64.min<=_),(by rw [b3];omega:_<=IntKind.i64.max)⟩
 have kk:=dy 0 (by omega) (by omega)
 iterate 8 refine ⟨fun h=>by omega,fun _ => ?_⟩
 obtain ⟨q1,q2,q3⟩:=vJ (x:=253402300799-x0) (p:=x1) (by omega) (by omega) g2
 refine ⟨(by show x1≠0;omega),fun x4 hx4 => ?_⟩
 rw [q1] at hx4
 subst hx4
 have no:¬(gU x0 x1 x2 (x3+1)<kM x0 x1 x2)->(K.i64 0/\K.i64 0/\aS x0 x1 x2 x3 m 0 false 0):=fun h=>⟨kk,kk,rfl,by rw [if_neg h];exact ⟨rfl,rfl⟩⟩
 have yes:∀k,k=gU x0 x1 x2 (x3+1)->0<=k->k<kM x0 x1 x2->(K.i64 (x0+k*x1)/\K.i64 0/\aS x0 x1 x2 x3 m (x0+k*x1) true 0):=fun k hk h0 h=>by
  obtain ⟨m1,m2⟩:=hm k h0 h
  exact ⟨dy _ (by omega) (by omega),kk,rfl,by rw [<-hk,if_pos h];exact ⟨rfl,rfl⟩⟩
 have low:x3+1<=x0->gU x0 x1 x2 (x3+1)=0:=fun h=>by unfold gU;rw [if_pos h]
 have high:x0<x3+1->gU x0 x1 x2 (x3+1)=min (kM x0 x1 x2) ((x3+1-x0-1) / x1+1):=fun h=>by unfold gU;rw [if_neg (by omega)]
 have fin:∀n:Int,n=kM x0 x1 x2->(((x3+1)<=x0->
   ((n<=0->(K.i64 0/\K.i64 0/\aS x0 x1 x2 x3 m 0 false 0))/\(0<n->(K.i64 (x0+(0*x1))/\K.i64 0/\aS x0 x1 x2 x3 m (x0+(0*x1)) true 0))))/\
   (x0<(x3+1)->(aJ BinOp.quo x1/\∀x6:Int,x6=aq BinOp.quo IntKind.i64 (((x3+1)-x0)-1) x1->(K.i64 x6)/\((x6+1)<=9223372036854775807/\(∀x7:Int,x7=(bif false then max n (x6+1) else min n (x6+1))->(K.i64 x7)/\((x7<0->(K.i64 0/\K.i64 0/\aS x0 x1 x2 x3 m 0 false 0))/\
   (0<=x7->((n<=x7->(K.i64 0/\K.i64 0/\aS x0 x1 x2 x3 m 0 false 0))/\(x7<n->((x7*x1)<=9223372036854775807/\((x0+(x7*x1))<=9223372036854775807/\(K.i64 (x0+(x7*x1))/\K.i64 0/\aS x0 x1 x2 x3 m (x0+(x7*x1)) true 0)))))))))))):=by
  intro n hn
  refine ⟨fun h=>⟨fun h'=>by omega,fun _=>yes 0 (low h).symm (by omega) (by omega)⟩,fun h => ?_⟩
  obtain ⟨r1,r2,r3⟩:=vJ (x:=x3+1-x0-1) (p:=x1) (by omega) (by omega) g2
  refine ⟨(by show x1≠0;omega),fun x6 hx6 => ?_⟩
  rw [r1] at hx6
  subst hx6
  refine ⟨dy _ (by omega) (by omega),by omega,fun x7 hx7 => ?_⟩
  have h7:x7=gU x0 x1 x2 (x3+1):=by rw [high h,<-hn];exact hx7
  have h70:x7=min n ((x3+1-x0-1) / x1+1):=hx7
  refine ⟨dy _ (by omega) (by omega),fun h'=>by omega,fun _=>⟨fun h'=>no (by omega),fun h' => ?_⟩⟩
  obtain ⟨m1,m2⟩:=hm x7 (by omega) (by omega)
  exact ⟨by omega,by omega,yes x7 h7 (by omega) (by omega)⟩
 refine ⟨dy _ (by omega) (by omega),by omega,fun h => ?_,fun h => ?_⟩
 ·intro x5 hx5
  have h5:x5=kM x0 x1 x2:=by unfold kM;rw [if_pos h];exact hx5
  exact ⟨dy _ (by omega) (by omega),fin x5 h5⟩
 ·exact fin _ (by unfold kM;rw [if_neg (by omega)])
theorem AL:cI Tryz.prog Gn:=
 cX (aZ [] trivial rfl) (bC _ []) 1000 Gn _ rfl rfl (Eq.mp (show AK=_ by kernel_rfl) Gp)
end
section
theorem fx {s p c t:Int} (hp:1<=p) (k:Int) (hk:0<=k):k<gU s p c t↔k<kM s p c/\s+k*p<t:=by
 have hkp:0<=k*p:=Int.mul_nonneg hk (by omega)
 unfold gU
 split
 ·omega
 ·have h:k<=(t-s-1) / p↔k*p<=t-s-1:=Int.le_ediv_iff_mul_le (by omega)
  omega
theorem ox {s p c t:Int} (hp:1<=p) (hn:0<=kM s p c):0<=gU s p c t/\gU s p c t<=kM s p c:=by
 unfold gU
 split
 ·omega
 ·have:0<=(t-s-1) / p:=Int.ediv_nonneg (by omega) (by omega)
  omega
theorem Ec {s p c t:Int} (hp:1<=p) (hn:0<=kM s p c) (h:∀k,0<=k->k<kM s p c->s+k*p≠t):gU s p c (t+1)=gU s p c t:=by
 obtain ⟨a0,a1⟩:=ox (t:=t) (c:=c) (s:=s) hp hn
 obtain ⟨b0,b1⟩:=ox (t:=t+1) (c:=c) (s:=s) hp hn
 have h1:=(fx (s:=s) (c:=c) (t:=t) hp (gU s p c t) a0)
 have h2:=(fx (s:=s) (c:=c) (t:=t+1) hp (gU s p c t) a0)
 have h3:=(fx (s:=s) (c:=c) (t:=t) hp (gU s p c (t+1)) b0)
 have h4:=(fx (s:=s) (c:=c) (t:=t+1) hp (gU s p c (t+1)) b0)
 have h5:=h (gU s p c t) a0
 omega
def Kf:List BE:=[.eq (.var 0) (.lit 2),.eq (.var 1) (.lit 0),.eq (.var 2) (.lit 0),.eq (.var 3) (.lit 0),.eq (.var 4) (.lit 0),.eq (.var 5) (.lit 0),.eq (.var 6) (.lit 0),.not (.var 0),.not (.var 1),.eq (.var 7) (.lit 0),.eq (.var 11) (.lit 0)]
structure ye (k a1 a2 a3 a4 a5 a6:Int) (b0 b1:Bool) (z s p c:Int) (n:Nat):Prop where
 k:k=2
 a1:a1=0
 a2:a2=0
 a3:a3=0
 a4:a4=0
 a5:a5=0
 a6:a6=0
 b0:b0=false
 b1:b1=false
 z:z=0
 n:n=0
def tC (k a1 a2 a3 a4 a5 a6:Int) (b0 b1:Bool) (z s p c:Int) (q:Option Addr) (n d:Nat) (t:Int) (m:Mem):Prop:=ye k a1 a2 a3 a4 a5 a6 b0 b1 z s p c n/\Gq s p c t
def dD (k a1 a2 a3 a4 a5 a6:Int) (b0 b1:Bool) (z s p c:Int) (q:Option Addr) (n d:Nat) (t:Int) (m:Mem) (r:Bool) (e:Int):Prop:=e=0/\r=gg s p c t
def oS (k a1 a2 a3 a4 a5 a6:Int) (b0 b1:Bool) (z s p c:Int) (q:Option Addr) (n d:Nat) (t:Int) (m:Mem):Prop:=ye k a1 a2 a3 a4 a5 a6 b0 b1 z s p c n/\Gq s p c t
def bV (k a1 a2 a3 a4 a5 a6:Int) (b0 b1:Bool) (z s p c:Int) (q:Option Addr) (n d:Nat) (t:Int) (m:Mem) (u:Int) (r:Bool) (e:Int):Prop:=
 e=0/\(if gU s p c (t+1)<kM s p c then r=true/\u=s+gU s p c (t+1)*p else r=false/\u=0)
def CX:Sp:={ args:=[.i .i64,.i .u64,.i .u64,.i .u64,.i .u64,.i .u64,.i .u64,.b,.b,.i .i64,.i .i64,.i .i64,.i .i64,.sl,.i .i64],grp:=[some 14,none],res:=[.b,.i .i64],rgrp:=[none,none],fn:=60,spec:=fun a0 a1 a2 a3 a4 a5 a6 a7 a8 a9 a10 a11 a12 a13 a14 a15 a16=>(tC a0 a1 a2 a3 a4 a5 a6 a7 a8 a9 a10 a11 a12 a13 a14 a15 a16,dD a0 a1 a2 a3 a4 a5 a6 a7 a8 a9 a10 a11 a12 a13 a14 a15 a16) }
def BP:Prop:=∀m:Mem,∀x0:Int,mi<=x0->x0<=ma->∀x1:Int,IntKind.u64.min<=x1->x1<=IntKind.u64.max->∀x2:Int,IntKind.u64.min<=x2->x2<=IntKind.u64.max->∀x3:Int,IntKind.u64.min<=x3->x3<=IntKind.u64.max->∀x4:Int,IntKind.u64.min<=x4->x4<=IntKind.u64.max->∀x5:Int,IntKind.u64.min<=x5->x5<=IntKind.u64.max->∀x6:Int,IntKind.u64.min<=x6->x6<=IntKind.u64.max->∀b0:Bool,∀b1:Bool,∀x7:Int,mi<=x7->x7<=ma->∀x8:Int,mi<=x8->x8<=ma->∀x9:Int,mi<=x9->x9<=ma->∀x10:Int,mi<=x10->x10<=ma->∀(p0:Option Addr) (n0 c0:Nat),n0<=9223372036854775807->c0<=9223372036854775807->∀x13:Int,mi<=x13->x13<=ma->tC x0 x1 x2 x3 x4 x5 x6 b0 b1 x7 x8 x9 x10 p0 n0 c0 x13 m->
 (x0=2/\(x1=0/\(x2=0/\(x3=0/\(x4=0/\(x5=0/\(x6=0/\(b0=false/\(b1=false/\(x7=0/\((n0:Int)=0/\((x8<0->
 ((K.i64 16)/\dD x0 x1 x2 x3 x4 x5 x6 b0 b1 x7 x8 x9 x10 p0 n0 c0 x13 m false 16))/\
 (0<=x8->
 ((253402300799<x8->
 ((K.i64 16)/\dD x0 x1 x2 x3 x4 x5 x6 b0 b1 x7 x8 x9 x10 p0 n0 c0 x13 m false 16))/\
 (x8<=253402300799->
 ((x9<1->
 ((K.i64 16)/\dD x0 x1 x2 x3 x4 x5 x6 b0 b1 x7 x8 x9 x10 p0 n0 c0 x13 m false 16))/\
 (1<=x9->
 ((68719476736<x9->
 ((K.i64 16)/\dD x0 x1 x2 x3 x4 x5 x6 b0 b1 x7 x8 x9 x10 p0 n0 c0 x13 m false 16))/\
 (x9<=68719476736->
 ((x10<0->
 ((K.i64 16)/\dD x0 x1 x2 x3 x4 x5 x6 b0 b1 x7 x8 x9 x10 p0 n0 c0 x13 m false 16))/\
 (0<=x10->
 ((1000000<x10->
 ((K.i64 16)/\dD x0 x1 x2 x3 x4 x5 x6 b0 b1 x7 x8 x9 x10 p0 n0 c0 x13 m false 16))/\
 (x10<=1000000->
 ((x13<0->
 ((K.i64 14)/\dD x0 x1 x2 x3 x4 x5 x6 b0 b1 x7 x8 x9 x10 p0 n0 c0 x13 m false 14))/\
 (0<=x13->
 ((253402300799<x13->
 ((K.i64 14)/\dD x0 x1 x2 x3 x4 x5 x6 b0 b1 x7 x8 x9 x10 p0 n0 c0 x13 m false 14))/\
 (x13<=253402300799->
 (oz x8 x9 x10 x13 m/\∀m1:Mem,ac m m1->∀b2:Bool,∀x14:Int,mi<=x14->x14<=ma->aR x8 x9 x10 x13 m1 b2 x14->
 ((b2=true->
 ((K.i64 x14)/\dD x0 x1 x2 x3 x4 x5 x6 b0 b1 x7 x8 x9 x10 p0 n0 c0 x13 m1 true x14))/\
 (b2=false->
 ((K.i64 x14)/\dD x0 x1 x2 x3 x4 x5 x6 b0 b1 x7 x8 x9 x10 p0 n0 c0 x13 m1 false x14)))))))))))))))))))))))))))))))
theorem Ht:BP:=by
 intro m x0 _ _ x1 _ _ x2 _ _ x3 _ _ x4 _ _ x5 _ _ x6 _ _ b0 b1 x7 _ _ x8 _ _ x9 _ _ x10 _ _ p0 n0 c0 _ _ x13 _ _ hpre
 obtain ⟨E,hv⟩:=hpre
 have hv':=hv
 obtain ⟨g0,g1,g2,g3,g4,g5,g6,g7⟩:=hv
 refine ⟨E.k,E.a1,E.a2,E.a3,E.a4,E.a5,E.a6,E.b0,E.b1,E.z,by rw [E.n];rfl,?_⟩
 iterate 8 refine ⟨fun h=>by omega,fun _ => ?_⟩
 refine ⟨hv',fun m1 _ b2 x14 k1 k2 hp => ?_⟩
 obtain ⟨rfl,hr⟩:=hp
 exact ⟨fun h=>⟨⟨k1,k2⟩,rfl,h.symm.trans hr⟩,fun h=>⟨⟨k1,k2⟩,rfl,h.symm.trans hr⟩⟩
theorem Hs:∀m,bG CX.args CX.spec fun r=>r.1 m->bg m []:=fun m _ _ _ _ _ _ _ _ _ _ _ _ _ _ _ _ _ _=>trivial
theorem BQ:cI Tryz.prog CX:=
 rf [] Kf [] rfl (aZ [Gl,Gn] ⟨AJ,⟨AL,trivial⟩⟩ rfl) (bC _ []) 1000 CX _ rfl rfl Hs (Eq.mp (show BP=_ by kernel_rfl) Ht)
def CY:Sp:={ args:=[.i .i64,.i .u64,.i .u64,.i .u64,.i .u64,.i .u64,.i .u64,.b,.b,.i .i64,.i .i64,.i .i64,.i .i64,.sl,.i .i64],grp:=[some 14,none],res:=[.i .i64,.b,.i .i64],rgrp:=[none,none,none],fn:=90,spec:=fun a0 a1 a2 a3 a4 a5 a6 a7 a8 a9 a10 a11 a12 a13 a14 a15 a16=>(oS a0 a1 a2 a3 a4 a5 a6 a7 a8 a9 a10 a11 a12 a13 a14 a15 a16,bV a0 a1 a2 a3 a4 a5 a6 a7 a8 a9 a10 a11 a12 a13 a14 a15 a16) }
def BR:Prop:=∀m:Mem,∀x0:Int,mi<=x0->x0<=ma->∀x1:Int,IntKind.u64.min<=x1->x1<=IntKind.u64.max->∀x2:Int,IntKind.u64.min<=x2->x2<=IntKind.u64.max->∀x3:Int,IntKind.u64.min<=x3->x3<=IntKind.u64.max->∀x4:Int,IntKind.u64.min<=x4->x4<=IntKind.u64.max->∀x5:Int,IntKind.u64.min<=x5->x5<=IntKind.u64.max->∀x6:Int,IntKind.u64.min<=x6->x6<=IntKind.u64.max->∀b0:Bool,∀b1:Bool,∀x7:Int,mi<=x7->x7<=ma->∀x8:Int,mi<=x8->x8<=ma->∀x9:Int,mi<=x9->x9<=ma->∀x10:Int,mi<=x10->x10<=ma->∀(p0:Option Addr) (n0 c0:Nat),n0<=9223372036854775807->c0<=9223372036854775807->∀x13:Int,mi<=x13->x13<=ma->oS x0 x1 x2 x3 x4 x5 x6 b0 b1 x7 x8 x9 x10 p0 n0 c0 x13 m->
 (x0=2/\(x1=0/\(x2=0/\(x3=0/\(x4=0/\(x5=0/\(x6=0/\(b0=false/\(b1=false/\(x7=0/\((n0:Int)=0/\((x8<0->
 ((K.i64 0)/\(K.i64 16)/\bV x0 x1 x2 x3 x4 x5 x6 b0 b1 x7 x8 x9 x10 p0 n0 c0 x13 m 0 false 16))/\
 (0<=x8->
 ((253402300799<x8->
 ((K.i64 0)/\(K.i64 16)/\bV x0 x1 x2 x3 x4 x5 x6 b0 b1 x7 x8 x9 x10 p0 n0 c0 x13 m 0 false 16))/\
 (x8<=253402300799->
 ((x9<1->
 ((K.i64 0)/\(K.i64 16)/\bV x0 x1 x2 x3 x4 x5 x6 b0 b1 x7 x8 x9 x10 p0 n0 c0 x13 m 0 false 16))/\
 (1<=x9->
 ((68719476736<x9->
 ((K.i64 0)/\(K.i64 16)/\bV x0 x1 x2 x3 x4 x5 x6 b0 b1 x7 x8 x9 x10 p0 n0 c0 x13 m 0 false 16))/\
 (x9<=68719476736->
 ((x10<0->
 ((K.i64 0)/\(K.i64 16)/\bV x0 x1 x2 x3 x4 x5 x6 b0 b1 x7 x8 x9 x10 p0 n0 c0 x13 m 0 false 16))/\
 (0<=x10->
 ((1000000<x10->
 ((K.i64 0)/\(K.i64 16)/\bV x0 x1 x2 x3 x4 x5 x6 b0 b1 x7 x8 x9 x10 p0 n0 c0 x13 m 0 false 16))/\
 (x10<=1000000->
 ((x13<0->
 ((K.i64 0)/\(K.i64 14)/\bV x0 x1 x2 x3 x4 x5 x6 b0 b1 x7 x8 x9 x10 p0 n0 c0 x13 m 0 false 14))/\
 (0<=x13->
 ((253402300799<x13->
 ((K.i64 0)/\(K.i64 14)/\bV x0 x1 x2 x3 x4 x5 x6 b0 b1 x7 x8 x9 x10 p0 n0 c0 x13 m 0 false 14))/\
 (x13<=253402300799->
 (((x13+1)<=253402300799->
 (oz x8 x9 x10 (x13+1) m/\∀m1:Mem,ac m m1->∀b2:Bool,∀x14:Int,mi<=x14->x14<=ma->aR x8 x9 x10 (x13+1) m1 b2 x14->
 ((b2=false->
 (sw x8 x9 x10 (x13+1) m1/\∀m2:Mem,ac m1 m2->∀x15:Int,mi<=x15->x15<=ma->∀b3:Bool,∀x16:Int,mi<=x16->x16<=ma->aS x8 x9 x10 (x13+1) m2 x15 b3 x16->
 ((b3=false->
 ((K.i64 0)/\(K.i64 0)/\bV x0 x1 x2 x3 x4 x5 x6 b0 b1 x7 x8 x9 x10 p0 n0 c0 x13 m2 0 false 0))/\
 (b3=true->
 ((0<=x15->
 ((253402300799<x15->
 ((K.i64 0)/\(K.i64 0)/\bV x0 x1 x2 x3 x4 x5 x6 b0 b1 x7 x8 x9 x10 p0 n0 c0 x13 m2 0 false 0))/\
 (x15<=253402300799->
 ((K.i64 x15)/\(K.i64 0)/\bV x0 x1 x2 x3 x4 x5 x6 b0 b1 x7 x8 x9 x10 p0 n0 c0 x13 m2 x15 true 0))))/\
 (x15<0->
 ((K.i64 0)/\(K.i64 0)/\bV x0 x1 x2 x3 x4 x5 x6 b0 b1 x7 x8 x9 x10 p0 n0 c0 x13 m2 0 false 0)))))))/\
 (b2=true->
 ((mi<=(x13+1)/\(x13+1)<=ma)/\(K.i64 0)/\bV x0 x1 x2 x3 x4 x5 x6 b0 b1 x7 x8 x9 x10 p0 n0 c0 x13 m1 (x13+1) true 0)))))/\
 (253402300799<(x13+1)->
 ((K.i64 0)/\(K.i64 0)/\bV x0 x1 x2 x3 x4 x5 x6 b0 b1 x7 x8 x9 x10 p0 n0 c0 x13 m 0 false 0))))))))))))))))))))))))))))))
theorem Hw:BR:=by
 intro m x0 _ _ x1 _ _ x2 _ _ x3 _ _ x4 _ _ x5 _ _ x6 _ _ b0 b1 x7 _ _ x8 _ _ x9 _ _ x10 _ _ p0 n0 c0 _ _ x13 k1 k2 hpre
 obtain ⟨E,hv⟩:=hpre
 obtain ⟨n1,n2,n3,n4,_,_⟩:=vH hv
 have hm:∀k,0<=k->k<kM x8 x9 x10->0<=k*x9/\k*x9<=253402300799-x8:=fun k=>yv hv
 obtain ⟨g0,g1,g2,g3,g4,g5,g6,g7⟩:=hv
 have kk:K.i64 0:=⟨by decide,by decide⟩
 have b2:IntKind.i64.min = -9223372036854775808:=rfl
 have b3:IntKind.i64.max=9223372036854775807:=rfl
 have dy:∀v:Int,-9223372036854775808<=v->v<=9223372036854775807->K.i64 v:=fun v h1 h2=>⟨(by rw [b2];omega:IntKind.i64.min<=_),(by rw [b3];omega:_<=IntKind.i64.max)⟩
 have hl:=ox (s:=x8) (c:=x10) (t:=x13+1) g2 (by omega)
 have hsp:=fx (s:=x8) (c:=x10) (t:=x13+1) g2
 refine ⟨E.k,E.a1,E.a2,E.a3,E.a4,E.a5,E.a6,E.b0,E.b1,E.z,by rw [E.n];rfl,?_⟩
 iterate 8 refine ⟨fun h=>by omega,fun _ => ?_⟩
 refine ⟨fun hle=>⟨⟨g0,g1,g2,g3,g4,g5,by omega,hle⟩,fun m1 _ b2' x14 q1 q2 hp => ?_⟩,fun hgt=>⟨kk,kk,rfl,?_⟩⟩
 ·obtain ⟨rfl,hr⟩:=hp
  refine ⟨fun h=>⟨⟨g0,g1,g2,g3,g4,g5,by omega,hle⟩,fun m2 _ x15 r1 r2 b3' x16 r3 r4 hq => ?_⟩,fun h=>⟨dy _ (by omega) (by omega),kk,rfl,?_⟩⟩
  ·obtain ⟨rfl,hq⟩:=hq
   rw [h] at hr
   have hne:gU x8 x9 x10 (x13+1+1)=gU x8 x9 x10 (x13+1):=by
    refine Ec g2 (by omega) (fun k h0 hk e => ?_)
    have h1:¬k<gU x8 x9 x10 (x13+1):=fun h'=>by have:=(hsp k h0).1 h';omega
    have h2:¬gU x8 x9 x10 (x13+1)<k:=fun h'=>by
     have:=(hsp (gU x8 x9 x10 (x13+1)) hl.1)
     have h3:(gU x8 x9 x10 (x13+1))*x9+x9<=k*x9:=by
      have:=Int.mul_le_mul_of_nonneg_right (show gU x8 x9 x10 (x13+1)+1<=k by omega) (show 0<=x9 by omega)
      rw [Int.add_mul,Int.one_mul] at this
      exact this
     omega
    have h3:k=gU x8 x9 x10 (x13+1):=by omega
    unfold gg at hr
    rw [<-h3] at hr
    have:=decide_eq_false_iff_not.1 hr.symm
    exact this ⟨hk,e⟩
   rw [hne] at hq
   split at hq
   ·rename_i hlt
    obtain ⟨rfl,rfl⟩:=hq
    obtain ⟨m1',m2'⟩:=hm _ hl.1 hlt
    refine ⟨(fun h=>by cases h),fun _=>⟨fun _=>⟨fun h=>by omega,fun _=>⟨⟨r1,r2⟩,kk,rfl,?_⟩⟩,fun h=>by omega⟩⟩
    rw [if_pos hlt];exact ⟨rfl,rfl⟩
   ·rename_i hlt
    obtain ⟨rfl,rfl⟩:=hq
    refine ⟨fun _=>⟨kk,kk,rfl,?_⟩,fun h=>by cases h⟩
    rw [if_neg hlt];exact ⟨rfl,rfl⟩
  ·rw [h] at hr
   unfold gg at hr
   obtain ⟨h1,h2⟩:=of_decide_eq_true hr.symm
   rw [if_pos h1]
   exact ⟨rfl,h2.symm⟩
 ·rw [if_neg]
  ·exact ⟨rfl,rfl⟩
  ·intro h
   obtain ⟨m1',m2'⟩:=hm _ hl.1 h
   have:=(hsp _ hl.1).2 ⟨h,by omega⟩
   omega
theorem Hu:∀m,bG CY.args CY.spec fun r=>r.1 m->bg m []:=fun m _ _ _ _ _ _ _ _ _ _ _ _ _ _ _ _ _ _=>trivial
theorem BS:cI Tryz.prog CY:=
 rf [] Kf [] rfl (aZ [Gl,Gn] ⟨AJ,⟨AL,trivial⟩⟩ rfl) (bC _ []) 1000 CY _ rfl rfl Hu (Eq.mp (show BR=_ by kernel_rfl) Hw)
end
section
def KF:List BE:=[.eq (.var 1) (.lit 0)]
def oJ (s:List UInt8) (seed len:Int) (m:Mem):Prop:=dJ m oH/\len=0/\ft s=true
def jW (s:List UInt8) (seed len:Int) (m:Mem) (z e:Int):Prop:=z=0/\e=0
def CA:Sp:={ args:=[.s,.i .u64,.i .i64],grp:=[none,none,none],res:=[.i .i64,.i .i64],rgrp:=[none,none],fn:=63,spec:=fun a0 a1 a2=>(oJ a0 a1 a2,jW a0 a1 a2) }
def A6:Prop:=∀m:Mem,∀s0:List UInt8,∀x0:Int,IntKind.u64.min<=x0->x0<=IntKind.u64.max->∀x1:Int,mi<=x1->x1<=ma->oJ s0 x0 x1 m->
 (x1=0/\(oL s0 m/\∀m1:Mem,ac m m1->∀b0:Bool,eL s0 m1 b0->
 ((b0=false->
 ((K.i64 0)/\(K.i64 15)/\jW s0 x0 x1 m1 0 15))/\
 (b0=true->
 (∀x2:Int,x2=IntKind.i64.wrap x0->mi<=x2->x2<=ma->(sQ s0 m1/\∀m2:Mem,ac m1 m2->∀x3:Int,IntKind.u64.min<=x3->x3<=IntKind.u64.max->pQ s0 m2 x3->
 (sP x3 x2 m2/\∀m3:Mem,ac m2 m3->∀x4:Int,IntKind.u64.min<=x4->x4<=IntKind.u64.max->pP x3 x2 m3 x4->
 (sZ x4 m3/\∀m4:Mem,ac m3 m4->∀x5:Int,IntKind.u64.min<=x5->x5<=IntKind.u64.max->pY x4 m4 x5->
 (sY x5 1 m4/\∀m5:Mem,ac m4 m5->∀x6:Int,IntKind.u64.min<=x6->x6<=IntKind.u64.max->∀x7:Int,mi<=x7->x7<=ma->mG x5 1 m5 x6 x7->
 (∀x8:Int,x8=IntKind.i64.wrap x6->mi<=x8->x8<=ma->((K.i64 x8)/\(K.i64 0)/\jW s0 x0 x1 m5 x8 0)))))))))))
theorem GF:A6:=by
 intro m s x0 _ _ x1 _ _ hpre
 obtain ⟨hg,h0,hs⟩:=hpre
 have kk:K.i64 0:=⟨by decide,by decide⟩
 have hl:s.length<=9223372036854775807:=by
  have:=hs
  unfold ft at this
  simp only [Bool.and_eq_true,decide_eq_true_eq] at this
  omega
 refine ⟨h0,hl,fun m1 k1 b0 hb => ?_⟩
 have hb:b0=ft s:=hb
 refine ⟨(fun h=>by rw [hb,hs] at h;cases h),fun _ x2 hx2 _ _=>⟨hl,fun m2 k2 x3 _ _ _=>⟨trivial,fun m3 k3 x4 _ _ _=>⟨((hg.sub k1).sub k2).sub k3,fun m4 k4 x5 h51 h52 _=>⟨trivial,fun m5 k5 x6 _ _ x7 _ _ hq x8 hx8 _ _ => ?_⟩⟩⟩⟩⟩
 have hz:x6=0:=by
  have:=(hq.2 (by decide)).1
  rw [this]
  unfold np
  rw [Int.mul_one]
  exact Int.ediv_eq_zero_of_lt h51 (by have:x5<=18446744073709551615:=h52;omega)
 have:x8=0:=by rw [hx8,hz];rfl
 exact ⟨by rw [this];exact kk,kk,this,rfl⟩
theorem GE:∀m,bG CA.args CA.spec fun r=>r.1 m->bg m oH:=fun m s x0 x1 h=>h.1.h
theorem A7:cI Tryz.prog CA:=
 rf oH KF [] rfl (aZ [IP,IL,EL,IX,GP] ⟨GG,⟨GC,⟨G4,⟨G2,⟨Bf,trivial⟩⟩⟩⟩⟩ rfl) (bC _ []) 1000 CA _ rfl rfl GE (Eq.mp (show A6=_ by kernel_rfl) GF)
end
end Go.Proofs.YtjabmipkllkfbaaGreatDoor.Vc
