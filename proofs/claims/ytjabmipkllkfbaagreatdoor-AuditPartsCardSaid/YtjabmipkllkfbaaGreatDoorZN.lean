/-
  Contracts, by their trees; Contracts, by their trees; Launches, limits and what a checked configuration and a trace give: plain; Jobs of the run's own that became memory.
-/
import Derived.Test.YtjabmipkllkfbaaGreatDoorZM
import Derived.Test.YtjabmipkllkfbaaGreatDoorZG
set_option linter.unusedVariables false
set_option linter.unusedSimpArgs false
namespace Go.Proofs.YtjabmipkllkfbaaGreatDoor.Vc
section
theorem D1 {N:List (List UInt8)} {i:Nat} {s:List UInt8} (h:N[i]? = some s):qE N i=true↔s∈N.take i:=by
 unfold qE
 have:N.getD i []=s:=by simp [List.getD,h]
 rw [this]
 simp
theorem na {α:Type} {q:α->Bool} {L:List α} {i:Nat} {J:α} (h:L[i]? = some J) (ha:(L.take i).all q=true) (hq:q J=true):(L.take (i+1)).all q=true:=by
 obtain ⟨hi,e⟩:=List.getElem?_eq_some_iff.1 h
 rw [<-List.take_append_getElem hi,e,List.all_append,ha]
 simp [hq]
theorem uB {α:Type} {q:α->Bool} {L:List α} {i:Nat} {J:α} (h:L[i]? = some J) (hq:q J=false):L.all q=false:=by
 rw [List.all_eq_false]
 exact ⟨J,List.mem_of_getElem? h,by simp [hq]⟩
def fw (a b c d s t u:Int) (p:Option Addr) (n cc:Nat) (m:Mem):Prop:=dJ m ln/\∃L,cM m p n L
def aH (a b c d s t u:Int) (p:Option Addr) (n cc:Nat) (m:Mem) (z:Int):Prop:=∀L,cM m p n L->z=gf a b c d t u L
def vv:Sp:={ args:=[.i .i64,.i .i64,.i .i64,.i .i64,.i .u64,.i .i64,.i .i64,.sl],grp:=[some 8],res:=[.i .i64],rgrp:=[none],fn:=25,spec:=fun a0 a1 a2 a3 a4 a5 a6 a7 a8 a9=>(fw a0 a1 a2 a3 a4 a5 a6 a7 a8 a9,aH a0 a1 a2 a3 a4 a5 a6 a7 a8 a9) }
set_option maxRecDepth 20000 in
def Au:Prop:=∀m:Mem,∀x0:Int,mi<=x0->x0<=ma->∀x1:Int,mi<=x1->x1<=ma->∀x2:Int,mi<=x2->x2<=ma->∀x3:Int,mi<=x3->x3<=ma->∀x4:Int,IntKind.u64.min<=x4->x4<=IntKind.u64.max->∀x5:Int,mi<=x5->x5<=ma->∀x6:Int,mi<=x6->x6<=ma->∀(p0:Option Addr) (n0 c0:Nat),n0<=9223372036854775807->c0<=9223372036854775807->fw x0 x1 x2 x3 x4 x5 x6 p0 n0 c0 m->
 (sI x0 x1 x2 x3 x4 x5 x6 m/\∀m1:Mem,ac m m1->∀x9:Int,mi<=x9->x9<=ma->dm x0 x1 x2 x3 x4 x5 x6 m1 x9->
 ((x9≠0->
 ((K.i64 x9)/\aH x0 x1 x2 x3 x4 x5 x6 p0 n0 c0 m1 x9))/\
 (x9=0->
 ((64<(n0:Int)->
 ((K.i64 12)/\aH x0 x1 x2 x3 x4 x5 x6 p0 n0 c0 m1 12))/\
 ((n0:Int)<=64->
 (∀k1:Nat,(∃F2:Int->Int->List Value->Prop×Nat,((K.i64 0)/\(K.i64 0)/\(F2 0 0 []).1)/\
 ∀x10:Int,mi<=x10->x10<=ma->∀x11:Int,mi<=x11->x11<=ma->∀r1:List Value,(F2 x10 x11 r1).1->
 ((x11<(n0:Int)->
 (0<=x11/\(p0≠none/\(cw m1 p0 (0+(x11*30)) 30/\(∃s0:List UInt8,ae m1 p0 (0+(x11*30))=some (Value.string ⟨List.toArray s0⟩)/\(oL s0 m1/\∀m3:Mem,ac m1 m3->∀b0:Bool,eL s0 m3 b0->
 ((b0=false->
 ((0<=x11->
 ((K.i64 15)/\aH x0 x1 x2 x3 x4 x5 x6 p0 n0 c0 m3 15))/\
 (x11<0->
 (∃F4:Int->Int->List Value->Prop×Nat,((K.i64 0)/\(K.i64 0)/\(F4 0 0 r1).1)/\
 ∀x12:Int,mi<=x12->x12<=ma->∀x13:Int,mi<=x13->x13<=ma->∀r2:List Value,(F4 x12 x13 r2).1->
 ((x13<(n0:Int)->
 (0<=x13/\(p0≠none/\(cw m3 p0 (0+(x13*30)) 30/\(∃s1:List UInt8,ae m3 p0 (0+(x13*30))=some (Value.string ⟨List.toArray s1⟩)/\(∃f:Option (Nat×Value),bb (Value.string ⟨List.toArray s1⟩) r2 0=some f/\∀b1:Bool,b1=rq f->∃r3:List Value,oO false f [(Value.bool false)] r3/\(∃b2:Bool,br r3 0=some (Value.bool b2)/\(∃f:Option (Nat×Value),bb (Value.string ⟨List.toArray s1⟩) r2 0=some f/\∀r4:List Value,r4=kQ f r2 (Value.string ⟨List.toArray s1⟩) (Value.bool true)->((b2=true->
 ((0<=x13->
 ((K.i64 6)/\aH x0 x1 x2 x3 x4 x5 x6 p0 n0 c0 m3 6))/\
 (x13<0->
 (∃F5:Int->Int->List Value->Prop×Nat,((K.i64 0)/\(K.i64 0)/\(F5 0 0 r4).1)/\
 ∀x14:Int,mi<=x14->x14<=ma->∀x15:Int,mi<=x15->x15<=ma->∀r5:List Value,(F5 x14 x15 r5).1->
 ((x15<(n0:Int)->
 (0<=x15/\(p0≠none/\(cw m3 p0 (0+(x15*30)) 30/\(∃x16:Int,ae m3 p0 ((0+(x15*30))+1)=some (vI x16)/\(K.i64 x16)/\(∃x17:Int,ae m3 p0 ((0+(x15*30))+2)=some (Value.int IntKind.u64 x17)/\(K.u64 x17)/\(∃x18:Int,ae m3 p0 ((0+(x15*30))+3)=some (Value.int IntKind.u64 x18)/\(K.u64 x18)/\(∃x19:Int,ae m3 p0 ((0+(x15*30))+4)=some (Value.int IntKind.u64 x19)/\(K.u64 x19)/\(∃x20:Int,ae m3 p0 ((0+(x15*30))+5)=some (Value.int IntKind.u64 x20)/\(K.u64 x20)/\(∃x21:Int,ae m3 p0 ((0+(x15*30))+6)=some (Value.int IntKind.u64 x21)/\(K.u64 x21)/\(∃x22:Int,ae m3 p0 ((0+(x15*30))+7)=some (Value.int IntKind.u64 x22)/\(K.u64 x22)/\(∃b3:Bool,ae m3 p0 ((0+(x15*30))+8)=some (Value.bool b3)/\(∃b4:Bool,ae m3 p0 ((0+(x15*30))+9)=some (Value.bool b4)/\(∃x23:Int,ae m3 p0 ((0+(x15*30))+10)=some (vI x23)/\(K.i64 x23)/\(∃x24:Int,ae m3 p0 ((0+(x15*30))+11)=some (vI x24)/\(K.i64 x24)/\(∃x25:Int,ae m3 p0 ((0+(x15*30))+12)=some (vI x25)/\(K.i64 x25)/\(∃x26:Int,ae m3 p0 ((0+(x15*30))+13)=some (vI x26)/\(K.i64 x26)/\(∃(p2:Option Addr) (n2 c2:Nat),ae m3 p0 ((0+(x15*30))+14)=some (Value.slice p2 n2 c2)/\(n2<=c2/\c2<=9223372036854775807)/\((n2<=9223372036854775807/\c2<=9223372036854775807)/\iP x16 x17 x18 x19 x20 x21 x22 b3 b4 x23 x24 x25 x26 (p2.map fun p=>p.add 0) n2 c2 m3/\∀m6:Mem,ac m3 m6->∀x29:Int,mi<=x29->x29<=ma->aU x16 x17 x18 x19 x20 x21 x22 b3 b4 x23 x24 x25 x26 (p2.map fun p=>p.add 0) n2 c2 m6 x29->
 ((x29=0->
 (∃x30:Int,ae m6 p0 ((0+(x15*30))+15)=some (vI x30)/\(K.i64 x30)/\(∃x31:Int,ae m6 p0 ((0+(x15*30))+16)=some (vI x31)/\(K.i64 x31)/\(∃x32:Int,ae m6 p0 ((0+(x15*30))+17)=some (vI x32)/\(K.i64 x32)/\(∃x33:Int,ae m6 p0 ((0+(x15*30))+18)=some (vI x33)/\(K.i64 x33)/\(∃x34:Int,ae m6 p0 ((0+(x15*30))+19)=some (vI x34)/\(K.i64 x34)/\(∃x35:Int,ae m6 p0 ((0+(x15*30))+20)=some (vI x35)/\(K.i64 x35)/\(∃x36:Int,ae m6 p0 ((0+(x15*30))+21)=some (vI x36)/\(K.i64 x36)/\(∃x37:Int,ae m6 p0 ((0+(x15*30))+22)=some (vI x37)/\(K.i64 x37)/\(∃x38:Int,ae m6 p0 ((0+(x15*30))+23)=some (vI x38)/\(K.i64 x38)/\(∃x39:Int,ae m6 p0 ((0+(x15*30))+24)=some (vI x39)/\(K.i64 x39)/\(∃x40:Int,ae m6 p0 ((0+(x15*30))+25)=some (vI x40)/\(K.i64 x40)/\(∃x41:Int,ae m6 p0 ((0+(x15*30))+26)=some (vI x41)/\(K.i64 x41)/\(∃x42:Int,ae m6 p0 ((0+(x15*30))+27)=some (vI x42)/\(K.i64 x42)/\(∃x43:Int,ae m6 p0 ((0+(x15*30))+28)=some (vI x43)/\(K.i64 x43)/\(∃x44:Int,ae m6 p0 ((0+(x15*30))+29)=some (vI x44)/\(K.i64 x44)/\(kg x30 x31 x32 x33 x34 x35 x36 x37 x38 x39 x40 x41 x42 x43 x44 m6/\∀m7:Mem,ac m6 m7->∀x45:Int,mi<=x45->x45<=ma->aa x30 x31 x32 x33 x34 x35 x36 x37 x38 x39 x40 x41 x42 x43 x44 m7 x45->
 ((x45≠0->
 ((0<=x15->
 ((K.i64 16)/\aH x0 x1 x2 x3 x4 x5 x6 p0 n0 c0 m7 16))/\
 (x15<0->
 ((K.i64 0)/\aH x0 x1 x2 x3 x4 x5 x6 p0 n0 c0 m7 0))))/\
 (x45=0->
 ((x15+1)<=9223372036854775807/\((K.i64 x14)/\(mi<=(x15+1)/\(x15+1)<=ma)/\((F5 x14 (x15+1) r5).1/\(F5 x14 (x15+1) r5).2<(F5 x14 x15 r5).2))))))))))))))))))))))/\
 (x29≠0->
 ((0<=x15->
 ((K.i64 16)/\aH x0 x1 x2 x3 x4 x5 x6 p0 n0 c0 m6 16))/\
 (x15<0->
 ((K.i64 0)/\aH x0 x1 x2 x3 x4 x5 x6 p0 n0 c0 m6 0))))))))))))))))))))))))/\
 ((n0:Int)<=x15->
 ((K.i64 0)/\aH x0 x1 x2 x3 x4 x5 x6 p0 n0 c0 m3 0)))))))/\
 (b2=false->
 ((x13+1)<=9223372036854775807/\((K.i64 x12)/\(mi<=(x13+1)/\(x13+1)<=ma)/\((F4 x12 (x13+1) r4).1/\(F4 x12 (x13+1) r4).2<(F4 x12 x13 r2).2)))))))))))))/\
 ((n0:Int)<=x13->
 (∃F5:Int->Int->List Value->Prop×Nat,((K.i64 0)/\(K.i64 0)/\(F5 0 0 r2).1)/\
 ∀x14:Int,mi<=x14->x14<=ma->∀x15:Int,mi<=x15->x15<=ma->∀r3:List Value,(F5 x14 x15 r3).1->
 ((x15<(n0:Int)->
 (0<=x15/\(p0≠none/\(cw m3 p0 (0+(x15*30)) 30/\(∃x16:Int,ae m3 p0 ((0+(x15*30))+1)=some (vI x16)/\(K.i64 x16)/\(∃x17:Int,ae m3 p0 ((0+(x15*30))+2)=some (Value.int IntKind.u64 x17)/\(K.u64 x17)/\(∃x18:Int,ae m3 p0 ((0+(x15*30))+3)=some (Value.int IntKind.u64 x18)/\(K.u64 x18)/\(∃x19:Int,ae m3 p0 ((0+(x15*30))+4)=some (Value.int IntKind.u64 x19)/\(K.u64 x19)/\(∃x20:Int,ae m3 p0 ((0+(x15*30))+5)=some (Value.int IntKind.u64 x20)/\(K.u64 x20)/\(∃x21:Int,ae m3 p0 ((0+(x15*30))+6)=some (Value.int IntKind.u64 x21)/\(K.u64 x21)/\(∃x22:Int,ae m3 p0 ((0+(x15*30))+7)=some (Value.int IntKind.u64 x22)/\(K.u64 x22)/\(∃b1:Bool,ae m3 p0 ((0+(x15*30))+8)=some (Value.bool b1)/\(∃b2:Bool,ae m3 p0 ((0+(x15*30))+9)=some (Value.bool b2)/\(∃x23:Int,ae m3 p0 ((0+(x15*30))+10)=some (vI x23)/\(K.i64 x23)/\(∃x24:Int,ae m3 p0 ((0+(x15*30))+11)=some (vI x24)/\(K.i64 x24)/\(∃x25:Int,ae m3 p0 ((0+(x15*30))+12)=some (vI x25)/\(K.i64 x25)/\(∃x26:Int,ae m3 p0 ((0+(x15*30))+13)=some (vI x26)/\(K.i64 x26)/\(∃(p2:Option Addr) (n2 c2:Nat),ae m3 p0 ((0+(x15*30))+14)=some (Value.slice p2 n2 c2)/\(n2<=c2/\c2<=9223372036854775807)/\((n2<=9223372036854775807/\c2<=9223372036854775807)/\iP x16 x17 x18 x19 x20 x21 x22 b1 b2 x23 x24 x25 x26 (p2.map fun p=>p.add 0) n2 c2 m3/\∀m6:Mem,ac m3 m6->∀x29:Int,mi<=x29->x29<=ma->aU x16 x17 x18 x19 x20 x21 x22 b1 b2 x23 x24 x25 x26 (p2.map fun p=>p.add 0) n2 c2 m6 x29->
 ((x29=0->
 (∃x30:Int,ae m6 p0 ((0+(x15*30))+15)=some (vI x30)/\(K.i64 x30)/\(∃x31:Int,ae m6 p0 ((0+(x15*30))+16)=some (vI x31)/\(K.i64 x31)/\(∃x32:Int,ae m6 p0 ((0+(x15*30))+17)=some (vI x32)/\(K.i64 x32)/\(∃x33:Int,ae m6 p0 ((0+(x15*30))+18)=some (vI x33)/\(K.i64 x33)/\(∃x34:Int,ae m6 p0 ((0+(x15*30))+19)=some (vI x34)/\(K.i64 x34)/\(∃x35:Int,ae m6 p0 ((0+(x15*30))+20)=some (vI x35)/\(K.i64 x35)/\(∃x36:Int,ae m6 p0 ((0+(x15*30))+21)=some (vI x36)/\(K.i64 x36)/\(∃x37:Int,ae m6 p0 ((0+(x15*30))+22)=some (vI x37)/\(K.i64 x37)/\(∃x38:Int,ae m6 p0 ((0+(x15*30))+23)=some (vI x38)/\(K.i64 x38)/\(∃x39:Int,ae m6 p0 ((0+(x15*30))+24)=some (vI x39)/\(K.i64 x39)/\(∃x40:Int,ae m6 p0 ((0+(x15*30))+25)=some (vI x40)/\(K.i64 x40)/\(∃x41:Int,ae m6 p0 ((0+(x15*30))+26)=some (vI x41)/\(K.i64 x41)/\(∃x42:Int,ae m6 p0 ((0+(x15*30))+27)=some (vI x42)/\(K.i64 x42)/\(∃x43:Int,ae m6 p0 ((0+(x15*30))+28)=some (vI x43)/\(K.i64 x43)/\(∃x44:Int,ae m6 p0 ((0+(x15*30))+29)=some (vI x44)/\(K.i64 x44)/\(kg x30 x31 x32 x33 x34 x35 x36 x37 x38 x39 x40 x41 x42 x43 x44 m6/\∀m7:Mem,ac m6 m7->∀x45:Int,mi<=x45->x45<=ma->aa x30 x31 x32 x33 x34 x35 x36 x37 x38 x39 x40 x41 x42 x43 x44 m7 x45->
 ((x45≠0->
 ((0<=x15->
 ((K.i64 16)/\aH x0 x1 x2 x3 x4 x5 x6 p0 n0 c0 m7 16))/\
 (x15<0->
 ((K.i64 0)/\aH x0 x1 x2 x3 x4 x5 x6 p0 n0 c0 m7 0))))/\
 (x45=0->
 ((x15+1)<=9223372036854775807/\((K.i64 x14)/\(mi<=(x15+1)/\(x15+1)<=ma)/\((F5 x14 (x15+1) r3).1/\(F5 x14 (x15+1) r3).2<(F5 x14 x15 r3).2))))))))))))))))))))))/\
 (x29≠0->
 ((0<=x15->
 ((K.i64 16)/\aH x0 x1 x2 x3 x4 x5 x6 p0 n0 c0 m6 16))/\
 (x15<0->
 ((K.i64 0)/\aH x0 x1 x2 x3 x4 x5 x6 p0 n0 c0 m6 0))))))))))))))))))))))))/\
 ((n0:Int)<=x15->
 ((K.i64 0)/\aH x0 x1 x2 x3 x4 x5 x6 p0 n0 c0 m3 0))))))))))/\
 (b0=true->
 ((x11+1)<=9223372036854775807/\((K.i64 x10)/\(mi<=(x11+1)/\(x11+1)<=ma)/\((F2 x10 (x11+1) r1).1/\(F2 x10 (x11+1) r1).2<(F2 x10 x11 r1).2)))))))))))/\
 ((n0:Int)<=x11->
 (∃F3:Int->Int->List Value->Prop×Nat,((K.i64 0)/\(K.i64 0)/\(F3 0 0 r1).1)/\
 ∀x12:Int,mi<=x12->x12<=ma->∀x13:Int,mi<=x13->x13<=ma->∀r2:List Value,(F3 x12 x13 r2).1->
 ((x13<(n0:Int)->
 (0<=x13/\(p0≠none/\(cw m1 p0 (0+(x13*30)) 30/\(∃s0:List UInt8,ae m1 p0 (0+(x13*30))=some (Value.string ⟨List.toArray s0⟩)/\(∃f:Option (Nat×Value),bb (Value.string ⟨List.toArray s0⟩) r2 0=some f/\∀b0:Bool,b0=rq f->∃r3:List Value,oO false f [(Value.bool false)] r3/\(∃b1:Bool,br r3 0=some (Value.bool b1)/\(∃f:Option (Nat×Value),bb (Value.string ⟨List.toArray s0⟩) r2 0=some f/\∀r4:List Value,r4=kQ f r2 (Value.string ⟨List.toArray s0⟩) (Value.bool true)->((b1=true->
 ((0<=x13->
 ((K.i64 6)/\aH x0 x1 x2 x3 x4 x5 x6 p0 n0 c0 m1 6))/\
 (x13<0->
 (∃F4:Int->Int->List Value->Prop×Nat,((K.i64 0)/\(K.i64 0)/\(F4 0 0 r4).1)/\
 ∀x14:Int,mi<=x14->x14<=ma->∀x15:Int,mi<=x15->x15<=ma->∀r5:List Value,(F4 x14 x15 r5).1->
 ((x15<(n0:Int)->
 (0<=x15/\(p0≠none/\(cw m1 p0 (0+(x15*30)) 30/\(∃x16:Int,ae m1 p0 ((0+(x15*30))+1)=some (vI x16)/\(K.i64 x16)/\(∃x17:Int,ae m1 p0 ((0+(x15*30))+2)=some (Value.int IntKind.u64 x17)/\(K.u64 x17)/\(∃x18:Int,ae m1 p0 ((0+(x15*30))+3)=some (Value.int IntKind.u64 x18)/\(K.u64 x18)/\(∃x19:Int,ae m1 p0 ((0+(x15*30))+4)=some (Value.int IntKind.u64 x19)/\(K.u64 x19)/\(∃x20:Int,ae m1 p0 ((0+(x15*30))+5)=some (Value.int IntKind.u64 x20)/\(K.u64 x20)/\(∃x21:Int,ae m1 p0 ((0+(x15*30))+6)=some (Value.int IntKind.u64 x21)/\(K.u64 x21)/\(∃x22:Int,ae m1 p0 ((0+(x15*30))+7)=some (Value.int IntKind.u64 x22)/\(K.u64 x22)/\(∃b2:Bool,ae m1 p0 ((0+(x15*30))+8)=some (Value.bool b2)/\(∃b3:Bool,ae m1 p0 ((0+(x15*30))+9)=some (Value.bool b3)/\(∃x23:Int,ae m1 p0 ((0+(x15*30))+10)=some (vI x23)/\(K.i64 x23)/\(∃x24:Int,ae m1 p0 ((0+(x15*30))+11)=some (vI x24)/\(K.i64 x24)/\(∃x25:Int,ae m1 p0 ((0+(x15*30))+12)=some (vI x25)/\(K.i64 x25)/\(∃x26:Int,ae m1 p0 ((0+(x15*30))+13)=some (vI x26)/\(K.i64 x26)/\(∃(p2:Option Addr) (n2 c2:Nat),ae m1 p0 ((0+(x15*30))+14)=some (Value.slice p2 n2 c2)/\(n2<=c2/\c2<=9223372036854775807)/\((n2<=9223372036854775807/\c2<=9223372036854775807)/\iP x16 x17 x18 x19 x20 x21 x22 b2 b3 x23 x24 x25 x26 (p2.map fun p=>p.add 0) n2 c2 m1/\∀m5:Mem,ac m1 m5->∀x29:Int,mi<=x29->x29<=ma->aU x16 x17 x18 x19 x20 x21 x22 b2 b3 x23 x24 x25 x26 (p2.map fun p=>p.add 0) n2 c2 m5 x29->
 ((x29=0->
 (∃x30:Int,ae m5 p0 ((0+(x15*30))+15)=some (vI x30)/\(K.i64 x30)/\(∃x31:Int,ae m5 p0 ((0+(x15*30))+16)=some (vI x31)/\(K.i64 x31)/\(∃x32:Int,ae m5 p0 ((0+(x15*30))+17)=some (vI x32)/\(K.i64 x32)/\(∃x33:Int,ae m5 p0 ((0+(x15*30))+18)=some (vI x33)/\(K.i64 x33)/\(∃x34:Int,ae m5 p0 ((0+(x15*30))+19)=some (vI x34)/\(K.i64 x34)/\(∃x35:Int,ae m5 p0 ((0+(x15*30))+20)=some (vI x35)/\(K.i64 x35)/\(∃x36:Int,ae m5 p0 ((0+(x15*30))+21)=some (vI x36)/\(K.i64 x36)/\(∃x37:Int,ae m5 p0 ((0+(x15*30))+22)=some (vI x37)/\(K.i64 x37)/\(∃x38:Int,ae m5 p0 ((0+(x15*30))+23)=some (vI x38)/\(K.i64 x38)/\(∃x39:Int,ae m5 p0 ((0+(x15*30))+24)=some (vI x39)/\(K.i64 x39)/\(∃x40:Int,ae m5 p0 ((0+(x15*30))+25)=some (vI x40)/\(K.i64 x40)/\(∃x41:Int,ae m5 p0 ((0+(x15*30))+26)=some (vI x41)/\(K.i64 x41)/\(∃x42:Int,ae m5 p0 ((0+(x15*30))+27)=some (vI x42)/\(K.i64 x42)/\(∃x43:Int,ae m5 p0 ((0+(x15*30))+28)=some (vI x43)/\(K.i64 x43)/\(∃x44:Int,ae m5 p0 ((0+(x15*30))+29)=some (vI x44)/\(K.i64 x44)/\(kg x30 x31 x32 x33 x34 x35 x36 x37 x38 x39 x40 x41 x42 x43 x44 m5/\∀m6:Mem,ac m5 m6->∀x45:Int,mi<=x45->x45<=ma->aa x30 x31 x32 x33 x34 x35 x36 x37 x38 x39 x40 x41 x42 x43 x44 m6 x45->
 ((x45≠0->
 ((0<=x15->
 ((K.i64 16)/\aH x0 x1 x2 x3 x4 x5 x6 p0 n0 c0 m6 16))/\
 (x15<0->
 ((K.i64 0)/\aH x0 x1 x2 x3 x4 x5 x6 p0 n0 c0 m6 0))))/\
 (x45=0->
 ((x15+1)<=9223372036854775807/\((K.i64 x14)/\(mi<=(x15+1)/\(x15+1)<=ma)/\((F4 x14 (x15+1) r5).1/\(F4 x14 (x15+1) r5).2<(F4 x14 x15 r5).2))))))))))))))))))))))/\
 (x29≠0->
 ((0<=x15->
 ((K.i64 16)/\aH x0 x1 x2 x3 x4 x5 x6 p0 n0 c0 m5 16))/\
 (x15<0->
 ((K.i64 0)/\aH x0 x1 x2 x3 x4 x5 x6 p0 n0 c0 m5 0))))))))))))))))))))))))/\
 ((n0:Int)<=x15->
 ((K.i64 0)/\aH x0 x1 x2 x3 x4 x5 x6 p0 n0 c0 m1 0)))))))/\
 (b1=false->
 ((x13+1)<=9223372036854775807/\((K.i64 x12)/\(mi<=(x13+1)/\(x13+1)<=ma)/\((F3 x12 (x13+1) r4).1/\(F3 x12 (x13+1) r4).2<(F3 x12 x13 r2).2)))))))))))))/\
 ((n0:Int)<=x13->
 (∃F4:Int->Int->List Value->Prop×Nat,((K.i64 0)/\(K.i64 0)/\(F4 0 0 r2).1)/\
 ∀x14:Int,mi<=x14->x14<=ma->∀x15:Int,mi<=x15->x15<=ma->∀r3:List Value,(F4 x14 x15 r3).1->
 ((x15<(n0:Int)->
 (0<=x15/\(p0≠none/\(cw m1 p0 (0+(x15*30)) 30/\(∃x16:Int,ae m1 p0 ((0+(x15*30))+1)=some (vI x16)/\(K.i64 x16)/\(∃x17:Int,ae m1 p0 ((0+(x15*30))+2)=some (Value.int IntKind.u64 x17)/\(K.u64 x17)/\(∃x18:Int,ae m1 p0 ((0+(x15*30))+3)=some (Value.int IntKind.u64 x18)/\(K.u64 x18)/\(∃x19:Int,ae m1 p0 ((0+(x15*30))+4)=some (Value.int IntKind.u64 x19)/\(K.u64 x19)/\(∃x20:Int,ae m1 p0 ((0+(x15*30))+5)=some (Value.int IntKind.u64 x20)/\(K.u64 x20)/\(∃x21:Int,ae m1 p0 ((0+(x15*30))+6)=some (Value.int IntKind.u64 x21)/\(K.u64 x21)/\(∃x22:Int,ae m1 p0 ((0+(x15*30))+7)=some (Value.int IntKind.u64 x22)/\(K.u64 x22)/\(∃b0:Bool,ae m1 p0 ((0+(x15*30))+8)=some (Value.bool b0)/\(∃b1:Bool,ae m1 p0 ((0+(x15*30))+9)=some (Value.bool b1)/\(∃x23:Int,ae m1 p0 ((0+(x15*30))+10)=some (vI x23)/\(K.i64 x23)/\(∃x24:Int,ae m1 p0 ((0+(x15*30))+11)=some (vI x24)/\(K.i64 x24)/\(∃x25:Int,ae m1 p0 ((0+(x15*30))+12)=some (vI x25)/\(K.i64 x25)/\(∃x26:Int,ae m1 p0 ((0+(x15*30))+13)=some (vI x26)/\(K.i64 x26)/\(∃(p2:Option Addr) (n2 c2:Nat),ae m1 p0 ((0+(x15*30))+14)=some (Value.slice p2 n2 c2)/\(n2<=c2/\c2<=9223372036854775807)/\((n2<=9223372036854775807/\c2<=9223372036854775807)/\iP x16 x17 x18 x19 x20 x21 x22 b0 b1 x23 x24 x25 x26 (p2.map fun p=>p.add 0) n2 c2 m1/\∀m5:Mem,ac m1 m5->∀x29:Int,mi<=x29->x29<=ma->aU x16 x17 x18 x19 x20 x21 x22 b0 b1 x23 x24 x25 x26 (p2.map fun p=>p.add 0) n2 c2 m5 x29->
 ((x29=0->
 (∃x30:Int,ae m5 p0 ((0+(x15*30))+15)=some (vI x30)/\(K.i64 x30)/\(∃x31:Int,ae m5 p0 ((0+(x15*30))+16)=some (vI x31)/\(K.i64 x31)/\(∃x32:Int,ae m5 p0 ((0+(x15*30))+17)=some (vI x32)/\(K.i64 x32)/\(∃x33:Int,ae m5 p0 ((0+(x15*30))+18)=some (vI x33)/\(K.i64 x33)/\(∃x34:Int,ae m5 p0 ((0+(x15*30))+19)=some (vI x34)/\(K.i64 x34)/\(∃x35:Int,ae m5 p0 ((0+(x15*30))+20)=some (vI x35)/\(K.i64 x35)/\(∃x36:Int,ae m5 p0 ((0+(x15*30))+21)=some (vI x36)/\(K.i64 x36)/\(∃x37:Int,ae m5 p0 ((0+(x15*30))+22)=some (vI x37)/\(K.i64 x37)/\(∃x38:Int,ae m5 p0 ((0+(x15*30))+23)=some (vI x38)/\(K.i64 x38)/\(∃x39:Int,ae m5 p0 ((0+(x15*30))+24)=some (vI x39)/\(K.i64 x39)/\(∃x40:Int,ae m5 p0 ((0+(x15*30))+25)=some (vI x40)/\(K.i64 x40)/\(∃x41:Int,ae m5 p0 ((0+(x15*30))+26)=some (vI x41)/\(K.i64 x41)/\(∃x42:Int,ae m5 p0 ((0+(x15*30))+27)=some (vI x42)/\(K.i64 x42)/\(∃x43:Int,ae m5 p0 ((0+(x15*30))+28)=some (vI x43)/\(K.i64 x43)/\(∃x44:Int,ae m5 p0 ((0+(x15*30))+29)=some (vI x44)/\(K.i64 x44)/\(kg x30 x31 x32 x33 x34 x35 x36 x37 x38 x39 x40 x41 x42 x43 x44 m5/\∀m6:Mem,ac m5 m6->∀x45:Int,mi<=x45->x45<=ma->aa x30 x31 x32 x33 x34 x35 x36 x37 x38 x39 x40 x41 x42 x43 x44 m6 x45->
 ((x45≠0->
 ((0<=x15->
 ((K.i64 16)/\aH x0 x1 x2 x3 x4 x5 x6 p0 n0 c0 m6 16))/\
 (x15<0->
 ((K.i64 0)/\aH x0 x1 x2 x3 x4 x5 x6 p0 n0 c0 m6 0))))/\
 (x45=0->
 ((x15+1)<=9223372036854775807/\((K.i64 x14)/\(mi<=(x15+1)/\(x15+1)<=ma)/\((F4 x14 (x15+1) r3).1/\(F4 x14 (x15+1) r3).2<(F4 x14 x15 r3).2))))))))))))))))))))))/\
 (x29≠0->
 ((0<=x15->
 ((K.i64 16)/\aH x0 x1 x2 x3 x4 x5 x6 p0 n0 c0 m5 16))/\
 (x15<0->
 ((K.i64 0)/\aH x0 x1 x2 x3 x4 x5 x6 p0 n0 c0 m5 0))))))))))))))))))))))))/\
 ((n0:Int)<=x15->
 ((K.i64 0)/\aH x0 x1 x2 x3 x4 x5 x6 p0 n0 c0 m1 0))))))))))))))))
set_option maxRecDepth 20000 in
set_option maxHeartbeats 4000000 in
theorem Gf:Au:=by
 intro m x0 _ _ x1 _ _ x2 _ _ x3 _ _ x4 _ _ x5 _ _ x6 _ _ p n c hn hc ⟨hgl,L,hL⟩
 have hlen:=hL.1
 have ps:∀(m':Mem) (z:Int),ac m m'->K.i64 z->z=gf x0 x1 x2 x3 x5 x6 L->(K.i64 z)/\aH x0 x1 x2 x3 x4 x5 x6 p n c m' z:=fun m' z h hk e=>⟨hk,fun T hT=>by
  rw [<-hL.uniq h hT];exact e⟩
 have k0:K.i64 0:=by constructor<;>decide
 refine ⟨trivial,fun m1 hm1 g hg1 hg2 hg=>⟨fun h=>ps m1 g hm1 ⟨hg1,hg2⟩ ?_,fun h0=>⟨fun h64=>ps m1 12 hm1 (by constructor<;>decide) ?_,fun h64 k1 => ?_⟩⟩⟩
 ·have hg:g=sJ x0 x1 x2 x3 x5 x6:=hg
  rw [gf,<-hg,if_pos h]
 ·have hg:g=sJ x0 x1 x2 x3 x5 x6:=hg
  rw [gf,<-hg,if_neg (by rw [h0];simp),if_pos (by omega)]
 have hg:g=sJ x0 x1 x2 x3 x5 x6:=hg
 have c1:¬(sJ x0 x1 x2 x3 x5 x6≠0):=by rw [<-hg,h0];simp
 have c2:¬(64<L.length):=by omega
 refine ⟨fun a y r=>(∃i:Nat,y=i/\i<=L.length/\(L.take i).all (fun J=>ft J.name)=true/\r=[],((n:Int)-y).toNat),⟨k0,k0,0,rfl,by omega,rfl,rfl⟩,?_⟩
 rintro a ka1 ka2 y ky1 ky2 r ⟨i,rfl,hi,hall,rfl⟩
 refine ⟨fun hlt => ?_,fun hge => ?_⟩
 ·obtain ⟨J,hJ,hat⟩:=(hL.sub hm1).at_ (i:=(i:Int)) (by omega) hlt
  rw [Int.toNat_natCast] at hJ
  refine ⟨by omega,hat.1.1,hat.1.2,J.name,hat.2.1.1,hat.2.1.2,fun m3 hm3 b0 hb0=>⟨fun hb=>⟨fun _=>ps m3 15 (hm1.trans hm3) (by constructor<;>decide) ?_,fun hneg=>by omega⟩,fun hb=>⟨by omega,⟨ka1,ka2⟩,dy (by omega) (by omega),⟨i+1,by omega,by omega,na hJ hall ?_,rfl⟩,by first | omega | (simp only;omega)⟩⟩⟩
  ·have hb0:b0=ft J.name:=hb0
   rw [gf,if_neg c1,if_neg c2,if_pos (uB hJ (by show ft J.name=false;rw [<-hb0];exact hb))]
  ·have hb0:b0=ft J.name:=hb0
   show ft J.name=true
   rw [<-hb0];exact hb
 have hil:i=L.length:=by omega
 subst hil
 rw [List.take_length] at hall
 have c3:¬(L.all (fun J=>ft J.name)=false):=by rw [hall];simp
 generalize hN:qd L=N
 have hNl:N.length=L.length:=by rw [<-hN];simp [qd]
 have hNi:∀(i:Nat) (J:cr),L[i]? = some J->N[i]? = some J.name:=fun i J h=>by rw [<-hN];simp [qd,h]
 refine ⟨fun a y r=>(∃i:Nat,y=i/\i<=L.length/\(∀j,j<i->qE N j=false)/\r=(N.take i).map yp,((n:Int)-y).toNat),⟨k0,k0,0,rfl,by omega,fun j hj=>by omega,rfl⟩,?_⟩
 rintro a2 ka3 ka4 y ky3 ky4 r ⟨i,rfl,hi2,hnd,rfl⟩
 refine ⟨fun hlt => ?_,fun hge2 => ?_⟩
 ·obtain ⟨J,hJ,hat⟩:=(hL.sub hm1).at_ (i:=(i:Int)) (by omega) hlt
  rw [Int.toNat_natCast] at hJ
  have hNJ:=hNi i J hJ
  refine ⟨by omega,hat.1.1,hat.1.2,J.name,hat.2.1.1,?_⟩
  by_cases hmem:J.name∈N.take i
  ·obtain ⟨j,hj⟩:=Ha J.name (N.take i) 0 hmem
   refine ⟨_,hj,fun b0 hb0=>⟨[.bool true],⟨rfl,by simp [bK],rfl⟩,true,rfl,_,hj,fun r4 hr4=>⟨fun _=>⟨fun _=>ps m1 6 hm1 (by constructor<;>decide) ?_,fun hneg=>by omega⟩,(fun h=>by cases h)⟩⟩⟩
   rw [gf,if_neg c1,if_neg c2,if_neg c3,hN,if_pos]
   rw [List.any_eq_true]
   exact ⟨i,by simp;omega,(D1 hNJ).2 hmem⟩
  ·have hno:=G9 J.name (N.take i) 0 hmem
   refine ⟨none,hno,fun b0 hb0=>⟨[.bool false],⟨rfl,by simp [bK],rfl⟩,false,rfl,none,hno,fun r4 hr4=>⟨(fun h=>by cases h),fun _=>⟨by omega,⟨ka3,ka4⟩,dy (by omega) (by omega),⟨i+1,by omega,by omega,fun j hj => ?_,?_⟩,by first | omega | (simp only;omega)⟩⟩⟩⟩
   ·rcases Nat.lt_or_ge j i with h | h
    ·exact hnd j h
    ·have:j=i:=by omega
     subst this
     cases hd:qE N j with
     | false=>rfl
     | true=>exact (hmem ((D1 hNJ).1 hd)).elim
   ·obtain ⟨hiN,e⟩:=List.getElem?_eq_some_iff.1 hNJ
    rw [hr4,<-List.take_append_getElem hiN,e]
    simp [kQ,yp]
 have hil:i=L.length:=by omega
 subst hil
 have c4:¬((List.range L.length).any (qE (qd L))=true):=by
  rw [hN,Bool.not_eq_true,List.any_eq_false]
  intro j hj
  rw [hnd j (by simpa using hj)];simp
 refine ⟨fun a y r=>(∃i:Nat,y=i/\i<=L.length/\(L.take i).all lZ=true,((n:Int)-y).toNat),⟨k0,k0,0,rfl,by omega,rfl⟩,?_⟩
 rintro a5 ka5 ka6 y ky5 ky6 r ⟨i,rfl,hi3,hall3⟩
 refine ⟨fun hlt => ?_,fun hge3 => ?_⟩
 ·obtain ⟨J,hJ,hat⟩:=(hL.sub hm1).at_ (i:=(i:Int)) (by omega) hlt
  rw [Int.toNat_natCast] at hJ
  obtain ⟨hh,hnm,⟨a1,a2,a3,a4,a5,a6,a7,a8,a9,a10,a11,a12,a13,q,qn,qc,b1,b2,b3⟩,hpol⟩:=hat
  refine ⟨by omega,hh.1,hh.2,J.k,a1.1,a1.2,J.a,a2.1,a2.2,J.b,a3.1,a3.2,J.c,a4.1,a4.2,J.d,a5.1,a5.2,J.e,a6.1,a6.2,J.f,a7.1,a7.2,J.x,a8,J.y,a9,J.z,a10.1,a10.2,J.s,a11.1,a11.2,J.t,a12.1,a12.2,J.u,a13.1,a13.2,q,qn,qc,b1,b2,⟨by omega,b2.2⟩,⟨hgl.sub hm1,J.skip,by rw [ai];exact b3⟩,fun m5 hm5 z1 hz1 hz2 hz => ?_⟩
  have hz:z1=xB J:=hz J.skip (by rw [ai];exact b3.sub hm5)
  obtain ⟨d1,d2,d3,d4,d5,d6,d7,d8,d9,d10,d11,d12,d13,d14,d15⟩:=hpol.sub hm5
  have bad:lZ J=false->16=gf x0 x1 x2 x3 x5 x6 L:=fun h=>by
   rw [gf,if_neg c1,if_neg c2,if_neg c3,if_neg c4,if_pos (uB hJ h)]
  refine ⟨fun h1=>⟨J.pol.cap,d1.1,d1.2,J.pol.prio,d2.1,d2.2,J.pol.splay,d3.1,d3.2,J.pol.dead,d4.1,d4.2,J.pol.mis,d5.1,d5.2,J.pol.keep,d6.1,d6.2,J.pol.lim.t,d7.1,d7.2,J.pol.lim.tau,d8.1,d8.2,J.pol.brk.fails,d9.1,d9.2,J.pol.brk.open_,d10.1,d10.2,J.pol.brk.probes,d11.1,d11.2,J.pol.ret.max_,d12.1,d12.2,J.pol.ret.base,d13.1,d13.2,J.pol.ret.cap,d14.1,d14.2,J.pol.ret.jit,d15.1,d15.2,trivial,
   fun m6 hm6 z2 hz3 hz4 hzz=>⟨fun h2=>⟨fun _=>ps m6 16 ((hm1.trans hm5).trans hm6) (by constructor<;>decide) (bad ?_),fun hneg=>by omega⟩,fun h2=>⟨by omega,⟨ka5,ka6⟩,dy (by omega) (by omega),⟨i+1,by omega,by omega,na hJ hall3 ?_⟩,by first | omega | (simp only;omega)⟩⟩⟩,fun h1=>⟨fun _=>ps m5 16 (hm1.trans hm5) (by constructor<;>decide) (bad ?_),fun hneg=>by omega⟩⟩
  ·have hzz:z2=As.polP J.pol:=hzz
   have:As.polP J.pol≠0:=by rw [<-hzz];exact h2
   simp [lZ,this]
  ·have hzz:z2=As.polP J.pol:=hzz
   have e1:As.polP J.pol=0:=by rw [<-hzz];exact h2
   have e2:xB J=0:=by rw [<-hz];exact h1
   simp [lZ,e1,e2]
  ·have:xB J≠0:=by rw [<-hz];exact h1
   simp [lZ,this]
 have hil:i=L.length:=by omega
 subst hil
 rw [List.take_length] at hall3
 refine ps m1 0 hm1 k0 ?_
 rw [gf,if_neg c1,if_neg c2,if_neg c3,if_neg c4,if_neg (by rw [hall3];simp)]
set_option maxRecDepth 20000 in
theorem kJ:cI Tryz.prog vv:=
 cX (aZ [II,GP,xz,I7] ⟨Gz,⟨Bf,⟨E2,⟨Hn,trivial⟩⟩⟩⟩ rfl) (ph _ [⟨(19,2),[],[],[],[1]⟩] [158]) 1000 vv _ rfl rfl (Eq.mp (show Au=_ by kernel_rfl) Gf)
end
section
theorem uO {m:Mem} {p:Option Addr} {z:Int} {n:Nat} (h:cw m p z n) (j k:Nat) (hjk:j+k<=n):cw m p (z+(j:Int)) k:=by
 obtain ⟨q,o,h1,h2,h3⟩:=h
 refine ⟨q,o+j,h1,by rw [h2];simp,fun i hi => ?_⟩
 obtain ⟨v,v1,v2⟩:=h3 (j+i) (by omega)
 refine ⟨v,?_,v2⟩
 rw [add_add] at v1 ⊢
 rw [show o+j+i=o+(j+i) by omega]
 exact v1
theorem bj.to {m:Mem} {p:Option Addr} {a b x:Int} (h:bj m p a x) (e:a=b):bj m p b x:=e▸h
theorem aw {m:Mem} {p:Option Addr} {a b:Int} {v:Option Value} (h:ae m p a=v) (e:a=b):ae m p b=v:=e▸h
end
section
open As
def uQ (q:Ev->Bool) (p:List Ev):List Int:=(p.filter fun x=>x.kind==1&&q x).map Ev.at_
theorem lR (q:Ev->Bool) (p:List Ev) (x:Ev):uQ q (p++[x])=uQ q p++(if x.kind=1/\q x=true then [x.at_] else []):=by
 unfold uQ
 rw [List.filter_append,List.map_append]
 congr 1
 by_cases h:x.kind=1/\q x=true
 ·rw [if_pos h,List.filter_cons_of_pos (by simp [h.1,h.2])];rfl
 ·rw [if_neg h,List.filter_cons_of_neg (by simp;intro h1;have:=fun h2=>h ⟨h1,h2⟩;simpa using this)];rfl
theorem GT (q:Ev->Bool) (p:List Ev):(uQ q p).length<=p.length:=by
 unfold uQ
 rw [List.length_map]
 exact List.length_filter_le _ _
theorem GU {q:Ev->Bool} {p:List Ev} {v:Int} (h:v∈uQ q p):∃x∈p,x.kind=1/\x.at_=v:=by
 unfold uQ at h
 obtain ⟨x,h1,h2⟩:=List.mem_map.1 h
 obtain ⟨h3,h4⟩:=List.mem_filter.1 h1
 simp only [Bool.and_eq_true,beq_iff_eq] at h4
 exact ⟨x,h3,h4.1,h2⟩
theorem vV {T M:Int} (hT:0<=T) (hM:0<=M):∀(L:List Int),(∀v∈L,v<=M)->0<=eD T L/\eD T L<=M+(L.length:Int)*T:=by
 have key:∀(n:Nat) (L:List Int),L.length=n->(∀v∈L,v<=M)->0<=eD T L/\eD T L<=M+(L.length:Int)*T:=by
  intro n
  induction n with
  | zero=>
   intro L h _
   have:L=[]:=List.length_eq_zero_iff.1 h
   subst this
   show 0<=(0:Int)/\(0:Int)<=M+(0:Int)*T
   omega
  | succ n ih =>
   intro L h hv
   rcases List.eq_nil_or_concat L with h0 | ⟨q,x,h0⟩
   ·rw [h0] at h;cases h
   ·rw [List.concat_eq_append] at h0
    subst h0
    rw [List.length_append] at h
    have hq:q.length=n:=by simpa using h
    obtain ⟨i1,i2⟩:=ih q hq (fun v hv'=>hv v (List.mem_append_left _ hv'))
    have hx:=hv x (by simp)
    rw [qe,List.length_append]
    have hnn:(0:Int)<=(q.length:Int)*T:=Int.mul_nonneg (by omega) hT
    have e:((q.length+[x].length:Nat):Int)*T=(q.length:Int)*T+T:=by
     simp only [List.length_cons,List.length_nil,Int.natCast_add];rw [Int.add_mul];simp
    rw [e]
    have h1:max (eD T q) x<=M+(q.length:Int)*T:=Int.max_le.2 ⟨i2,by omega⟩
    have h2:=Int.le_max_left (eD T q) x
    omega
 exact fun L h=>key _ L rfl h
def marks (f:List Ev->Ev->Bool) (l:List Ev) (n:Nat):List Bool:=(List.range n).map fun i=>match l[i]? with | some x=>f (l.take i) x | none=>false
theorem tb (f:List Ev->Ev->Bool) (l:List Ev) {i:Nat} {x:Ev} (h:l[i]? = some x):marks f l (i+1)=marks f l i++[f (l.take i) x]:=by
 unfold marks
 rw [List.range_succ,List.map_append]
 simp [h]
theorem pZ (f:List Ev->Ev->Bool) (l:List Ev) (n:Nat):(marks f l n).length=n:=by simp [marks]
theorem Fr {jobs:Int}:∀(r p:List Ev) (a:Int),(a,(0:Int))=ix jobs p r->∀i x,r[i]? = some x->cS jobs (p++r.take i) x=0:=by
 intro r
 induction r with
 | nil=>intro p a _ i x h;simp at h
 | cons y r ih =>
  intro p a h i x hx
  simp only [ix] at h
  by_cases h0:cS jobs p y≠0
  ·rw [if_pos h0] at h
   injection h with _ h
   exact (h0 h.symm).elim
  ·rw [if_neg h0] at h
   cases i with
   | zero=>
    simp at hx;subst hx
    rw [List.take_zero,List.append_nil]
    omega
   | succ i=>
    have:=ih (p++[y]) a h i x (by simpa using hx)
    rw [List.append_assoc] at this
    simpa using this
theorem pj {jobs:Int} {l:List Ev} {a:Int} (h:(a,(0:Int))=iG jobs l):(0<=jobs/\jobs<=64)/\∀i x,l[i]? = some x->cS jobs (l.take i) x=0:=by
 unfold iG at h
 split at h
 ·injection h with _ h;cases h
 ·rename_i hj
  refine ⟨by omega,fun i x hx => ?_⟩
  have:=Fr l [] a h i x hx
  simpa using this
theorem fR {jobs:Int} {p:List Ev} {x:Ev} (h:cS jobs p x=0):evP x=0/\(x.kind≠6->x.job<jobs)/\lG p x=false:=by
 unfold cS at h
 split at h
 ·rename_i h1;exact (h1 h).elim
 ·rename_i h1
  split at h
  ·cases h
  ·rename_i h2
   split at h
   ·cases h
   ·rename_i h3
    exact ⟨by omega,fun hk=>by rcases Int.lt_or_le x.job jobs with g | g;exact g;exact (h2 ⟨hk,g⟩).elim,by simpa using h3⟩
theorem wR {x:Ev} (h:evP x=0):0<=x.at_/\x.at_<=253402300799:=by
 unfold evP at h
 split at h
 ·cases h
 ·simp only at h
  split at h
  ·cases h
  ·rename_i hn
   have:timeB x.at_=true:=by
    cases ht:timeB x.at_ with
    | true=>rfl
    | false=>exact (hn (.inl (by rw [ht];simp))).elim
   simp only [timeB,Bool.and_eq_true,decide_eq_true_eq] at this
   exact this
theorem Dt {k:Int} (hk:k≠6):(usesK k).1=true:=by
 unfold usesK
 by_cases h1:k=1\/k=2\/k=3
 ·rw [if_pos h1]
 ·rw [if_neg h1]
  by_cases h2:k=4
  ·rw [if_pos h2]
  ·rw [if_neg h2]
   by_cases h3:k=5
   ·rw [if_pos h3]
   ·rw [if_neg h3,if_neg hk]
    by_cases h4:k=7
    ·rw [if_pos h4]
    ·rw [if_neg h4]
theorem oA {x:Ev} (h:evP x=0) (hk:x.kind≠6):0<=x.job:=by
 have h1:inU (usesK x.kind).1 x.job 0 63=true:=by
  cases hj:inU (usesK x.kind).1 x.job 0 63 with
  | true=>rfl
  | false =>
   exfalso
   unfold evP at h
   by_cases h1:x.kind<1\/9<=x.kind
   ·rw [if_pos h1] at h;cases h
   ·rw [if_neg h1] at h
    dsimp only at h
    rw [hj] at h
    simp only [Bool.false_and,Bool.false_eq_true,if_false] at h
    by_cases h2:¬timeB x.at_=true\/(usesK x.kind).2.1=true/\¬timeB x.due=true
    ·rw [if_pos h2] at h;cases h
    ·rw [if_neg h2] at h;cases h
 rw [Dt hk] at h1
 simp only [inU,if_true,Bool.and_eq_true,decide_eq_true_eq] at h1
 exact h1.1
theorem EC {t u:Int} (h:limP ⟨t,u⟩=0):(0<=t/\t<=68719476736)/\(0<=u/\u<=68719476736):=by
 unfold limP at h
 rw [C9] at h
 have h1:=h _ (List.mem_cons_self ..)
 have h2:=h (inB u 0 spanM) (by simp)
 simp only [inB,Bool.and_eq_true,decide_eq_true_eq] at h1 h2
 exact ⟨h1,h2⟩
theorem Hx {p:Pol} (h:polP p=0):limP p.lim=0:=by
 unfold polP at h
 rw [Cu _ _ (by
  intro e he
  simp only [List.mem_cons,List.not_mem_nil,or_false] at he
  rcases he with rfl | rfl | rfl | rfl | rfl
  ·exact l5 _
  ·unfold misP;split<;>exact l5 _
  ·exact l5 _
  ·unfold brkP;split
   ·exact .inl rfl
   ·exact l5 _
  ·unfold retP_;split
   ·exact .inl rfl
   ·exact l5 _) (.inl rfl)] at h
 split at h
 ·rename_i h1
  exact h1.2 _ (by simp)
 ·cases h
theorem sa {a b c d t u : Int} {L : List cr} (h : gf a b c d t u L = 0) : L.length <= 64 /\ ((0 <= t /\ t <= 68719476736) /\ (0 <= u /\ u <= 68719476736)) /\ ∀ J ∈ L, polP J.pol = 0 /\ (0 <= J.pol.lim.t /\ J.pol.lim.t <= 68719476736) /\ (0 <= J.pol.lim.tau /\ J.pol.lim.tau <= 68719476736) := by
 unfold gf at h
 split at h
 ·rename_i h1;exact (h1 h).elim
 ·rename_i h1
  split at h
  ·cases h
  ·rename_i h2
   split at h
   ·cases h
   ·split at h
    ·cases h
    ·split at h
     ·cases h
     ·rename_i h5
      have hg:sJ a b c d t u=0:=by omega
      have hl:limP ⟨t,u⟩=0:=by
       unfold sJ at hg
       split at hg
       ·cases hg
       ·rename_i hn
        rcases Int.lt_trichotomy (limP ⟨t,u⟩) 0 with g | g | g
        ·exact (hn (by omega)).elim
        ·exact g
        ·exact (hn (by omega)).elim
      refine ⟨by omega,EC hl,fun J hJ => ?_⟩
      have ha:L.all lZ=true:=by simpa using h5
      have:=List.all_eq_true.1 ha J hJ
      simp only [lZ,Bool.and_eq_true,decide_eq_true_eq] at this
      have hlim:=Hx this.2
      obtain ⟨c1,c2⟩:=EC (t:=J.pol.lim.t) (u:=J.pol.lim.tau) hlim
      exact ⟨this.2,c1,c2⟩
def ol (a b c d t u:Int) (L:List cr) (l:List Ev):Int:=if gf a b c d t u L≠0 then gf a b c d t u L else (iG (L.length:Int) l).2
def hZ (a b c d t u:Int) (L:List cr) (l:List Ev) (f:List Ev->Ev->Bool):List Nat:=if ol a b c d t u L l=0 then bZ (marks f l l.length) 0 else []
theorem jv {r:List Value} {o:Nat} {v:Value} (h:r[o]? = some v) (h1:bK v=some v):br r (o:Int)=some v:=by
 show (match r[o]? with | some v=>bK v | none=>none)=some v
 rw [h];exact h1
theorem jx {r:List Value} {z z':Int} {v:Option Value} (h:br r z=v) (e:z=z'):br r z'=v:=e▸h
theorem ii (r:List Value) (k:Nat) (vs:List Value) (j:Nat) (hk:k+vs.length<=r.length):(aE r k vs)[j]? = if k<=j/\j<k+vs.length then vs[j-k]? else r[j]? := by
 rw [jr]
 by_cases h:k<=j/\j<k+vs.length
 ·rw [if_pos h,if_pos ⟨h.1,h.2,by omega⟩]
 ·rw [if_neg h,if_neg (fun g=>h ⟨g.1,g.2.1⟩)]
def jq (j:Int) (x:Ev):Bool:=decide (x.job=j)
def lj (x:Ev):Bool:=true
theorem mH {f:List Ev->Ev->Bool} {l:List Ev} {i:Nat} {x:Ev} (h:l[i]? = some x) (hb:f (l.take i) x=true):bZ (marks f l (i+1)) 0=bZ (marks f l i) 0++[i]:=by
 rw [tb f l h,wV,hb,pZ];simp
theorem kR {f:List Ev->Ev->Bool} {l:List Ev} {i:Nat} {x:Ev} (h:l[i]? = some x) (hb:f (l.take i) x=false):bZ (marks f l (i+1)) 0=bZ (marks f l i) 0:=by
 rw [tb f l h,wV,hb];simp
theorem bv (f:List Ev->Ev->Bool) (l:List Ev) (i:Nat):(bZ (marks f l i) 0).length<=i:=by
 have:=Ep (marks f l i) 0
 rw [pZ] at this;exact this
def mrow (f:List Ev->Ev->Bool) (l:List Ev) (n i:Nat):List Value:=Ga (marks f l i++List.replicate (n-i) false)
end
section
open As
def lP (J:cr):List Value:=[.string ⟨J.name.toArray⟩,.int .i64 J.k,.int .u64 J.a,.int .u64 J.b,.int .u64 J.c,.int .u64 J.d,.int .u64 J.e,.int .u64 J.f,.bool J.x,.bool J.y,.int .i64 J.z,.int .i64 J.s,.int .i64 J.t,.int .i64 J.u,.slice none 0 0,.int .i64 J.pol.cap,.int .i64 J.pol.prio,.int .i64 J.pol.splay,.int .i64 J.pol.dead,.int .i64 J.pol.mis,.int .i64 J.pol.keep,.int .i64 J.pol.lim.t,.int .i64 J.pol.lim.tau,.int .i64 J.pol.brk.fails,.int .i64 J.pol.brk.open_,.int .i64 J.pol.brk.probes,.int .i64 J.pol.ret.max_,.int .i64 J.pol.ret.base,.int .i64 J.pol.ret.cap,.int .i64 J.pol.ret.jit]
abbrev Ku (z:Int):Prop:=IntKind.u64.min<=z/\z<=IntKind.u64.max
structure DC (J:cr):Prop where
 name:J.name.length<=9223372036854775807
 k:K.i64 J.k
 a:Ku J.a
 b:Ku J.b
 c:Ku J.c
 d:Ku J.d
 e:Ku J.e
 f:Ku J.f
 z:K.i64 J.z
 s:K.i64 J.s
 t:K.i64 J.t
 u:K.i64 J.u
 skip:J.skip=[]
 cap:K.i64 J.pol.cap
 prio:K.i64 J.pol.prio
 splay:K.i64 J.pol.splay
 dead:K.i64 J.pol.dead
 mis:K.i64 J.pol.mis
 keep:K.i64 J.pol.keep
 lt:K.i64 J.pol.lim.t
 ltau:K.i64 J.pol.lim.tau
 bf:K.i64 J.pol.brk.fails
 bo:K.i64 J.pol.brk.open_
 bp:K.i64 J.pol.brk.probes
 rm:K.i64 J.pol.ret.max_
 rb:K.i64 J.pol.ret.base
 rc:K.i64 J.pol.ret.cap
 rj:K.i64 J.pol.ret.jit
theorem vR {J:cr} {j:Nat} {v:Value} (h:(lP J)[j]? = some v):bK v=some v:=by
 have:∀v∈lP J,bK v=some v:=by simp [lP,bK]
 exact this v (List.mem_of_getElem? h)
theorem CD {m:Mem} {q:Addr} {z:Int} {J:cr} (h:∀(j:Nat) (v:Value),(lP J)[j]? = some v->ae m (some q) (z+(j:Int))=some v) (k:DC J):nZ m (some q) z J:=by
 refine ⟨fC (by omega) fun j hj=>⟨_,h j _ (List.getElem?_eq_getElem (by show j<30;exact hj))⟩,⟨aw (h 0 _ rfl) (by omega),k.name⟩,
  ⟨⟨h 1 _ rfl,k.k⟩,⟨h 2 _ rfl,k.a⟩,⟨h 3 _ rfl,k.b⟩,⟨h 4 _ rfl,k.c⟩,⟨h 5 _ rfl,k.d⟩,⟨h 6 _ rfl,k.e⟩,⟨h 7 _ rfl,k.f⟩,h 8 _ rfl,h 9 _ rfl,⟨h 10 _ rfl,k.z⟩,⟨h 11 _ rfl,k.s⟩,⟨h 12 _ rfl,k.t⟩,⟨h 13 _ rfl,k.u⟩,none,0,0,h 14 _ rfl,⟨by omega,by omega⟩,by rw [k.skip];exact ⟨rfl,fun i a b e=>by simp at e⟩⟩,
  ⟨h 15 _ rfl,k.cap⟩,⟨h 16 _ rfl,k.prio⟩,⟨h 17 _ rfl,k.splay⟩,⟨h 18 _ rfl,k.dead⟩,⟨h 19 _ rfl,k.mis⟩,⟨h 20 _ rfl,k.keep⟩,⟨h 21 _ rfl,k.lt⟩,⟨h 22 _ rfl,k.ltau⟩,⟨h 23 _ rfl,k.bf⟩,⟨h 24 _ rfl,k.bo⟩,⟨h 25 _ rfl,k.bp⟩,⟨h 26 _ rfl,k.rm⟩,⟨h 27 _ rfl,k.rb⟩,⟨h 28 _ rfl,k.rc⟩,⟨h 29 _ rfl,k.rj⟩⟩
theorem CE {m:Mem} {q:Addr} {J:cr} (h:bJ m (some q) (lP J)) (k:DC J):cM m (some q) 1 [J]:=by
 refine ⟨rfl,fun i X hX => ?_⟩
 match i,hX with
 | 0,hX=>
  cases hX
  refine CD (fun j v hv => ?_) k
  exact aw (dw h (j:=j) hv (vR hv)) (by omega)
 | i+1,hX=>simp at hX
end
end Go.Proofs.YtjabmipkllkfbaaGreatDoor.Vc
