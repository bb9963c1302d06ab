/-
  Contracts, by their trees; Contracts, by their trees; Contracts, by their trees.
-/
import Derived.Test.YtjabmipkllkfbaaGreatDoorZH
set_option linter.unusedVariables false
set_option linter.unusedSimpArgs false
namespace Go.Proofs.YtjabmipkllkfbaaGreatDoor.Vc
section
open As
def yd (x:Ev):Prop:=K.i64 x.kind/\K.i64 x.at_/\K.i64 x.job/\K.i64 x.due/\K.i64 x.attempt/\K.i64 x.run/\K.i64 x.why/\K.i64 x.when_
theorem nX.ok {m:Mem} {p:Option Addr} {z:Int} {x:Ev} (h:nX m p z x):yd x:=⟨h.1.2,h.2.1.2,h.2.2.1.2,h.2.2.2.1.2,h.2.2.2.2.1.2,h.2.2.2.2.2.1.2,h.2.2.2.2.2.2.1.2,h.2.2.2.2.2.2.2.2⟩
theorem dx.ok {m:Mem} {p:Option Addr} {n:Nat} {l:List Ev} (h:dx m p n l):∀x∈l,yd x:=fun x hx=>by
 obtain ⟨i,hi⟩:=List.getElem?_of_mem hx
 exact (h.2 i x hi).ok
def dK:List Ev->List Value
 | []=>[]
 | x::l=>eP x++dK l
theorem Cs:∀(l:List Ev) (x:Ev),dK (l++[x])=dK l++eP x:=by
 intro l
 induction l with
 | nil=>intro x;simp [dK]
 | cons y l ih=>intro x;simp [dK,ih]
theorem uI:∀(l:List Ev) (i j:Nat) (x:Ev),l[i]? = some x->j<8->(dK l)[i*8+j]? = (eP x)[j]? := by
 intro l
 induction l with
 | nil=>intro i j x h;simp at h
 | cons y l ih =>
  intro i j x h hj
  have hl:(eP y).length=8:=rfl
  cases i with
  | zero=>
   simp at h;subst h
   simp only [dK]
   rw [List.getElem?_append_left (by rw [hl];omega),Nat.zero_mul,Nat.zero_add]
  | succ i=>
   simp only [dK]
   rw [List.getElem?_append_right (by rw [hl];omega),hl,show (i+1)*8+j-8=i*8+j by omega]
   exact ih i j x (by simpa using h) hj
theorem Ed {m:Mem} {q:Option Addr} {l:List Ev} (h:eg m q (dK l)) (hok:∀x∈l,yd x):dx m q l.length l:=by
 refine ⟨rfl,fun i x hx => ?_⟩
 obtain ⟨o1,o2,o3,o4,o5,o6,o7,o8⟩:=hok x (List.mem_of_getElem? hx)
 have g:=fun j hj=>uI l i j x hx hj
 have z:∀j:Nat,((i*8+j:Nat):Int)=(i:Int)*8+j:=fun j=>by omega
 have a1:=h.int (j:=i*8+0) (x:=x.kind) (by rw [g 0 (by omega)];rfl) o1
 have a2:=h.int (j:=i*8+1) (x:=x.at_) (by rw [g 1 (by omega)];rfl) o2
 have a3:=h.int (j:=i*8+2) (x:=x.job) (by rw [g 2 (by omega)];rfl) o3
 have a4:=h.int (j:=i*8+3) (x:=x.due) (by rw [g 3 (by omega)];rfl) o4
 have a5:=h.int (j:=i*8+4) (x:=x.attempt) (by rw [g 4 (by omega)];rfl) o5
 have a6:=h.int (j:=i*8+5) (x:=x.run) (by rw [g 5 (by omega)];rfl) o6
 have a7:=h.int (j:=i*8+6) (x:=x.why) (by rw [g 6 (by omega)];rfl) o7
 have a8:=h.int (j:=i*8+7) (x:=x.when_) (by rw [g 7 (by omega)];rfl) o8
 rw [z] at a1 a2 a3 a4 a5 a6 a7 a8
 exact ⟨by simpa using a1,a2,a3,a4,a5,a6,a7,a8⟩
end
section
open As
end
section
def Js (n:Nat):Bool:=(decide (97<=n)&&decide (n<=122))||(decide (65<=n)&&decide (n<=90))||(decide (48<=n)&&decide (n<=57))||decide (n=45)||decide (n=95)
def I0 (c:UInt8):Bool:=Js c.toNat
def ft (s:List UInt8):Bool:=decide (1<=s.length)&&decide (s.length<=24)&&s.all I0
def BG (n:Nat):Int:=aq BinOp.or IntKind.u8 (n:Int) 32
theorem I4:(List.range 256).all (fun n=>decide (0<=BG n)&&decide (BG n<=255)&&((decide (97<=BG n)&&decide (BG n<=122))==((decide (97<=n)&&decide (n<=122))||(decide (65<=n)&&decide (n<=90)))))=true:=by kernel_rfl
theorem JM {n:Nat} (h:n<256):(0<=BG n/\BG n<=255)/\((97<=BG n/\BG n<=122)↔((97<=n/\n<=122)\/(65<=n/\n<=90))):=by
 have:=List.all_eq_true.1 I4 n (by simp [h])
 simp only [Bool.and_eq_true,decide_eq_true_eq,beq_iff_eq] at this
 refine ⟨this.1,?_⟩
 have h2:=this.2
 rw [Bool.eq_iff_iff] at h2
 simp only [Bool.and_eq_true,Bool.or_eq_true,decide_eq_true_eq] at h2
 exact h2
def oL (s:List UInt8) (m:Mem):Prop:=s.length<=9223372036854775807
def eL (s:List UInt8) (m:Mem) (r:Bool):Prop:=r=ft s
def GP:Sp:={ args:=[.s],grp:=[none],res:=[.b],rgrp:=[none],fn:=78,spec:=fun a0=>(oL a0,eL a0) }
def Be:Prop:=∀m:Mem,∀s0:List UInt8,oL s0 m->
 (∀b0:Bool,b0=decide (s0=([]:List UInt8))->((b0=true->
 (eL s0 m false))/\
 (b0=false->
 (∀x0:Int,x0=((s0.length:Nat):Int)->0<=x0/\x0<=9223372036854775807/\((24<x0->
 (eL s0 m false))/\
 (x0<=24->
 (∀x1:Int,x1=((s0.length:Nat):Int)->0<=x1/\x1<=9223372036854775807/\(∃F1:Bool->Int->Prop×Nat,((K.i64 0)/\(F1 false 0).1)/\
 ∀b1:Bool,∀x2:Int,mi<=x2->x2<=ma->(F1 b1 x2).1->
 ((x2<x1->
 ((0<=x2/\x2<((s0.length:Nat):Int))/\∀x3:Int,x3=((((s0).getD (x2).toNat 0).toNat:Nat):Int)->0<=x3->x3<=255->(aJ BinOp.or 32/\∀x4:Int,x4=aq BinOp.or IntKind.u8 x3 32->(K.u8 x4)/\((97<=x4->
 (aJ BinOp.or 32/\∀x5:Int,x5=aq BinOp.or IntKind.u8 x3 32->(K.u8 x5)/\((122<x5->
 ((x3<48->
 ((x3≠45->
 (eL s0 m false))/\
 (x3=45->
 ((x2+1)<=9223372036854775807/\((mi<=(x2+1)/\(x2+1)<=ma)/\((F1 b1 (x2+1)).1/\(F1 b1 (x2+1)).2<(F1 b1 x2).2))))))/\
 (48<=x3->
 ((57<x3->
 ((x3≠95->
 (eL s0 m false))/\
 (x3=95->
 ((x2+1)<=9223372036854775807/\((mi<=(x2+1)/\(x2+1)<=ma)/\((F1 b1 (x2+1)).1/\(F1 b1 (x2+1)).2<(F1 b1 x2).2))))))/\
 (x3<=57->
 ((x2+1)<=9223372036854775807/\((mi<=(x2+1)/\(x2+1)<=ma)/\((F1 b1 (x2+1)).1/\(F1 b1 (x2+1)).2<(F1 b1 x2).2))))))))/\
 (x5<=122->
 ((x2+1)<=9223372036854775807/\((mi<=(x2+1)/\(x2+1)<=ma)/\((F1 b1 (x2+1)).1/\(F1 b1 (x2+1)).2<(F1 b1 x2).2)))))))/\
 (x4<97->
 ((x3<48->
 ((x3≠45->
 (eL s0 m false))/\
 (x3=45->
 ((x2+1)<=9223372036854775807/\((mi<=(x2+1)/\(x2+1)<=ma)/\((F1 b1 (x2+1)).1/\(F1 b1 (x2+1)).2<(F1 b1 x2).2))))))/\
 (48<=x3->
 ((57<x3->
 ((x3≠95->
 (eL s0 m false))/\
 (x3=95->
 ((x2+1)<=9223372036854775807/\((mi<=(x2+1)/\(x2+1)<=ma)/\((F1 b1 (x2+1)).1/\(F1 b1 (x2+1)).2<(F1 b1 x2).2))))))/\
 (x3<=57->
 ((x2+1)<=9223372036854775807/\((mi<=(x2+1)/\(x2+1)<=ma)/\((F1 b1 (x2+1)).1/\(F1 b1 (x2+1)).2<(F1 b1 x2).2))))))))))))/\
 (x1<=x2->
 (eL s0 m true)))))))))))
set_option maxHeartbeats 4000000 in
theorem GQ:Be:=by
 intro m s hs
 have hs:s.length<=9223372036854775807:=hs
 have again:∀(b:Bool) (i:Nat),i<s.length->(s.take i).all I0=true->Js (s.getD i 0).toNat=true->(i:Int)+1<=9223372036854775807/\((IntKind.i64.min<=((i:Int)+1)/\((i:Int)+1)<=IntKind.i64.max)/\((∃i':Nat,(i:Int)+1=i'/\i'<=s.length/\(s.take i').all I0=true)/\((s.length:Int)-((i:Int)+1)).toNat<((s.length:Int)-(i:Int)).toNat)):=fun b i hi hall ho=>by
  refine ⟨by omega,dy (by omega) (by omega),⟨i+1,by omega,by omega,?_⟩,by omega⟩
  rw [<-List.take_append_getElem hi,List.all_append,hall]
  have:s.getD i 0=s[i]:=by simp [List.getD,hi]
  rw [this] at ho
  simp [I0,ho]
 have stop:∀(m':Mem) (i:Nat),i<s.length->Js (s.getD i 0).toNat=false->false=ft s:=fun m' i hi ho=>by
  have:s.getD i 0=s[i]:=by simp [List.getD,hi]
  rw [this] at ho
  have:s.all I0=false:=by
   rw [List.all_eq_false]
   exact ⟨s[i],List.getElem_mem hi,by simp [I0,ho]⟩
  simp [ft,this]
 intro b0 hb0
 refine ⟨fun h => ?_,fun h x0 hx0=>⟨by omega,by omega,fun h24 => ?_,fun h24 x1 hx1=>⟨by omega,by omega,?_⟩⟩⟩
 ·rw [hb0] at h
  have:s=[]:=by simpa using h
  subst this;rfl
 ·show false=ft s
  have:¬s.length<=24:=by omega
  simp [ft,this]
 ·have hne:s≠[]:=by rw [hb0] at h;simpa using h
  have hpos:1<=s.length:=by
   cases s with
   | nil=>exact (hne rfl).elim
   | cons _ _=>simp
  refine ⟨fun b x=>(∃i:Nat,x=i/\i<=s.length/\(s.take i).all I0=true,((s.length:Int)-x).toNat),⟨by constructor<;>decide,0,rfl,by omega,rfl⟩,?_⟩
  rintro b1 x k1 k2 ⟨i,rfl,hi,hall⟩
  refine ⟨fun hlt=>⟨⟨by omega,by omega⟩,fun c hc hc0 hc1 => ?_⟩,fun hge => ?_⟩
  ·rw [Int.toNat_natCast] at hc
   have hil:i<s.length:=by omega
   generalize hn:(s.getD i 0).toNat=n at hc
   have ha:=again b1 i hil hall
   have hst:=stop m i hil
   rw [hn] at ha hst
   subst hc
   have hn2:n<256:=by omega
   obtain ⟨ho1,ho2⟩:=JM hn2
   have kk:K.u8 (BG n):=ho1
   refine ⟨trivial,fun v hv=>⟨by rw [hv];exact kk,fun h97=>⟨trivial,fun v2 hv2=>⟨by rw [hv2];exact kk,fun h122 => ?_,fun h122=>ha ?_⟩⟩,fun h97 => ?_⟩⟩
   ·have hv2':v2=BG n:=hv2
    have hv':v=BG n:=hv
    refine ⟨fun q1=>⟨fun q2=>hst ?_,fun q2=>ha ?_⟩,fun q1=>⟨fun q2=>⟨fun q3=>hst ?_,fun q3=>ha ?_⟩,fun q2=>ha ?_⟩⟩<;>(simp [Js];omega)
   ·have hv2':v2=BG n:=hv2
    have hv':v=BG n:=hv
    simp [Js];omega
   ·have hv':v=BG n:=hv
    refine ⟨fun q1=>⟨fun q2=>hst ?_,fun q2=>ha ?_⟩,fun q1=>⟨fun q2=>⟨fun q3=>hst ?_,fun q3=>ha ?_⟩,fun q2=>ha ?_⟩⟩<;>(simp [Js];omega)
  ·show true=ft s
   rw [List.take_of_length_le (by omega)] at hall
   have h1:s.length<=24:=by omega
   simp [ft,hall,h1,hpos]
theorem Bf:cI Tryz.prog GP:=
 cX (aZ [] trivial rfl) (bC _ [⟨(48,4),[],[],[],[]⟩]) 1000 GP _ rfl rfl (Eq.mp (show Be=_ by kernel_rfl) GQ)
end
end Go.Proofs.YtjabmipkllkfbaaGreatDoor.Vc
