/-
  The engine: an evaluator of the model's code on abstract values and an abstract heap (definitions); The engine is sound, 1: tries, lists, integers; The engine is sound, 2: values, the heap; The engine is sound, 3: operations that only compute; The engine is sound, 4: operations that only compute (operators, parts, slices).
-/
import Derived.RangeFuncLeaves
import Derived.LoopNIn
import Derived.OrdersIn
import Derived.KernelRfl
import Derived.Below
import Derived.Laws.StructEq
import Derived.Laws.Tables
set_option linter.unusedVariables false
set_option linter.unusedSimpArgs false
namespace Go.Proofs.YtjabmipkllkfbaaGreatDoor.Vc
section
inductive Tr (α:Type) where
 | e
 | n (l:Tr α) (v:Option α) (r:Tr α)
def Tr.get {α:Type}:Tr α->Nat->Option α
 | .e,_=>none
 | .n l v r,k=>bif Nat.beq k 0 then v else bif Nat.beq (Nat.mod k 2) 1 then l.get (Nat.div k 2) else r.get (Nat.div (Nat.sub k 1) 2)
def Tr.set {α:Type}:Nat->Tr α->Nat->α->Tr α
 | 0,t,_,_=>t
 | f+1,t,k,x=>
  match t with
  | .e=>bif Nat.beq k 0 then .n .e (some x) .e else bif Nat.beq (Nat.mod k 2) 1 then .n (Tr.set f .e (Nat.div k 2) x) none .e else .n .e none (Tr.set f .e (Nat.div (Nat.sub k 1) 2) x)
  | .n l v r=>bif Nat.beq k 0 then .n l (some x) r else bif Nat.beq (Nat.mod k 2) 1 then .n (Tr.set f l (Nat.div k 2) x) v r else .n l v (Tr.set f r (Nat.div (Nat.sub k 1) 2) x)
def Tr.eqb {α:Type} (p:α->α->Bool):Tr α->Tr α->Bool
 | .e,.e=>true
 | .n l v r,.n l' v' r'=>(match v,v' with | none,none=>true | some x,some y=>p x y | _,_=>false)&&Tr.eqb p l l'&&Tr.eqb p r r'
 | _,_=>false
def eY:Nat:=9223372036854775808
def aA {α:Type}:List α->Nat->Option α
 | [],_=>none
 | x::xs,k=>bif Nat.beq k 0 then some x else aA xs (Nat.sub k 1)
def mS {α:Type}:List α->Nat->α->List α
 | [],_,_=>[]
 | x::xs,k,y=>bif Nat.beq k 0 then y::xs else x::mS xs (Nat.sub k 1) y
def jp {α:Type}:List α->Nat->List α
 | [],_=>[]
 | x::xs,k=>bif Nat.beq k 0 then x::xs else jp xs (Nat.sub k 1)
def gn {α:Type}:Nat->List α->Option (List α)
 | 0,_=>some []
 | _+1,[]=>none
 | k+1,x::xs=>match gn k xs with | some l=>some (x::l) | none=>none
def aE {α:Type}:List α->Nat->List α->List α
 | l,_,[]=>l
 | l,k,x::xs=>aE (mS l k x) (Nat.add k 1) xs
def Bn {α:Type}:List α->List α->List α
 | l,[]=>l
 | [],_::_=>[]
 | _::l,x::xs=>x::Bn l xs
def Bo {α:Type}:List α->Nat->List α->List α
 | [],_,_=>[]
 | y::l,k,xs=>bif Nat.beq k 0 then Bn (y::l) xs else y::Bo l (Nat.sub k 1) xs
def bF {α:Type}:List α->Nat
 | []=>0
 | _::xs=>Nat.succ (bF xs)
def lf:Int->Int->Bool
 | .ofNat a,.ofNat b=>Nat.ble a b
 | .ofNat _,.negSucc _=>false
 | .negSucc _,.ofNat _=>true
 | .negSucc a,.negSucc b=>Nat.ble b a
def Er:Int->Int->Bool
 | .ofNat a,.ofNat b=>Nat.beq a b
 | .negSucc a,.negSucc b=>Nat.beq a b
 | _,_=>false
inductive IE where
 | lit (n:Int)
 | var (i:Nat)
 | add (a b:IE)
 | sub (a b:IE)
 | mul (a b:IE)
def IE.val (σ:List Int):IE->Option Int
 | .lit n=>some n
 | .var i=>aA σ i
 | .add a b=>match a.val σ,b.val σ with | some x,some y=>some (x+y) | _,_=>none
 | .sub a b=>match a.val σ,b.val σ with | some x,some y=>some (x-y) | _,_=>none
 | .mul a b=>match a.val σ,b.val σ with | some x,some y=>some (x*y) | _,_=>none
def IE.eqb:IE->IE->Bool
 | .lit a,.lit b=>Er a b
 | .var i,.var j=>Nat.beq i j
 | .add a b,.add c d=>a.eqb c&&b.eqb d
 | .sub a b,.sub c d=>a.eqb c&&b.eqb d
 | .mul a b,.mul c d=>a.eqb c&&b.eqb d
 | _,_=>false
structure ew where
 rng:List (Int×Int)
 le:List (IE×IE×Bool)
 eq:List (IE×IE×Bool)
def IE.rng (K:ew):IE->Option (Int×Int)
 | .lit n=>some (n,n)
 | .var i=>aA K.rng i
 | .add a b=>match a.rng K,b.rng K with | some (x,y),some (u,v)=>some (x+u,y+v) | _,_=>none
 | .sub a b=>match a.rng K,b.rng K with | some (x,y),some (u,v)=>some (x-v,y-u) | _,_=>none
 | .mul a b=>match a.rng K,b.rng K with | some (x,y),some (u,v)=>bif lf 0 x&&lf 0 u then some (x*u,y*v) else none | _,_=>none
def gV:List (IE×IE×Bool)->IE->IE->Option Bool
 | [],_,_=>none
 | (x,y,t)::l,a,b=>bif x.eqb a&&y.eqb b then some t else gV l a b
def CJ (K:ew) (a b:IE):Option Bool:=
 match a,b with
 | .lit x,.lit y=>some (lf x y)
 | a,b=>
  match a.rng K,b.rng K with
  | some (x,y),some (u,v)=>bif lf y u then some true else bif lf (v+1) x then some false else gV K.le a b
  | _,_=>gV K.le a b
def H1 (K:ew) (a b:IE):Option Bool:=
 match a,b with
 | .lit x,.lit y=>some (Er x y)
 | a,b=>bif a.eqb b then some true else
  match a.rng K,b.rng K with
  | some (x,y),some (u,v)=>bif lf (y+1) u then some false else bif lf (v+1) x then some false else gV K.eq a b
  | _,_=>gV K.eq a b
def xZ (K:ew) (k:IntKind) (e:IE):Option IE:=
 match e with
 | .lit n=>some (.lit (k.wrap n))
 | e=>match e.rng K with
  | some (x,y)=>bif lf k.min x&&lf y k.max then some e else none
  | none=>none
def eA (a b:IE):IE:=match a,b with
 | .lit x,.lit y => .lit (x+y)
 | a,b => .add a b
def we (a b:IE):IE:=match a,b with
 | .lit x,.lit y => .lit (x-y)
 | a,b => .sub a b
inductive BE where
 | var (i:Nat)
 | le (a b:IE)
 | eq (a b:IE)
 | not (c:BE)
 | and (c d:BE)
def BE.val (σ:List Int) (β:List Bool):BE->Option Bool
 | .var i=>aA β i
 | .le a b=>match a.val σ,b.val σ with | some x,some y=>some (decide (x<=y)) | _,_=>none
 | .eq a b=>match a.val σ,b.val σ with | some x,some y=>some (decide (x=y)) | _,_=>none
 | .not c=>match c.val σ β with | some x=>some (!x) | none=>none
 | .and c d=>match c.val σ β,d.val σ β with | some x,some y=>some (x&&y) | _,_=>none
def BE.eqb:BE->BE->Bool
 | .var i,.var j=>Nat.beq i j
 | .le a b,.le c d=>a.eqb c&&b.eqb d
 | .eq a b,.eq c d=>a.eqb c&&b.eqb d
 | .not c,.not d=>c.eqb d
 | .and a b,.and c d=>a.eqb c&&b.eqb d
 | _,_=>false
inductive AV where
 | bool (b:Bool)
 | bx (c:BE)
 | int (k:IntKind) (e:IE)
 | str (l:List UInt8)
 /-- a string that is a variable -/
 | sv (i:Nat)
 /-- a slice of memory that nobody writes:of the place τ a -/
 | sl (a:Nat) (off len cap:IE)
 | pt (a:Nat) (off:IE)
 /-- one cell of it -/
 | cl (a:Nat) (off:IE)
 /-- one cell of a row that is a variable -/
 | rc (r:Nat) (off:IE)
 | ptr (id off:Nat)
 | nilp
 | slice (id off len:Nat) (cap:Option Nat) (skip:Nat)
 | nils
 | map (id:Nat)
 | nilm
 | func (fn:Fn) (first captured:List AV)
 | yield (id:Nat)
 | nilf
 | nili
 | agg (l:List AV)
 | tup (l:List AV)
 | opq (i:Nat)
 /-- a whole row that is a variable -/
 | whole (r:Nat)
inductive Ex where
 | normal
 | exit (id:Nat)
 | goto (l:Nat)
 | ret
def i4:Ex->Option Code
 | .normal=>none
 | .ret=>some .ret
 | .exit id=>some (.exit id)
 | .goto l=>some (.goto l)
structure LC where
 params:Array Tmp
 assign:Code
 body:Code
abbrev Mem:=Nat->Option Obj
structure PE where
 σ:List Int
 β:List Bool
 ς:List (List UInt8)
 τ:List Value
 ρ:List (List Value)
 mem:Mem
 /-- those at the beginning -/
 mem0:Mem
structure az extends PE where
 E:Nat->Option (Nat×Nat)
 L:Nat->Option LC
def bK:Value->Option Value
 | .agg _=>none
 | .tuple _=>none
 | v=>some v
def df (m:Mem) (p:Addr):Option Value:=
 match m p.block with
 | some (.cells c _ _)=>if p.spot.isSome then none else c[p.off]?
 | _=>none
def aQ (σ:List Int) (e:IE):Option Nat:=
 match e.val σ with
 | some (.ofNat n)=>some n
 | _=>none
def aM (τ:List Value) (a:Nat):Option (Option Addr):=
 match aA τ a with
 | some (.pointer p)=>some p
 | _=>none
def ae (m:Mem) (p:Option Addr) (z:Int):Option Value:=
 match p,z with
 | some p,.ofNat o=>(match df m (p.add o) with | some v=>bK v | none=>none)
 | _,_=>none
def br (l:List Value) (z:Int):Option Value:=
 match z with
 | .ofNat o=>(match l[o]? with | some v=>bK v | none=>none)
 | _=>none
def nc (pe:PE) (a:Nat) (off:IE):Option Value:=
 match aM pe.τ a,off.val pe.σ with
 | some p,some z=>ae pe.mem p z
 | _,_=>none
def tJ (pe:PE) (r:Nat) (off:IE):Option Value:=
 match aA pe.ρ r,off.val pe.σ with
 | some l,some z=>br l z
 | _,_=>none
def lq (pe:PE) (i:Nat):Option Value:=match aA pe.τ i with | some v=>bK v | none=>none
def qS (pe:PE) (a:Nat) (off len cap:IE):Option Value:=
 match aM pe.τ a,aQ pe.σ off,aQ pe.σ len,aQ pe.σ cap with
 | some p,some o,some n,some c=>some (.slice (p.map fun p=>p.add o) n c)
 | _,_,_,_=>none
def HV (pe:PE) (a:Nat) (off:IE):Option Value:=
 match aM pe.τ a,aQ pe.σ off with
 | some (some p),some o=>some (.pointer (some (p.add o)))
 | _,_=>none
def eG:Option Nat->Nat->Nat->Nat
 | some c,_,_=>c
 | none,n,skip=>n-skip
def AV.conc (V:az):AV->Option Value
 | .bool b=>some (.bool b)
 | .bx c=>match c.val V.σ V.β with | some b=>some (.bool b) | none=>none
 | .int k e=>match e.val V.σ with | some z=>some (.int k z) | none=>none
 | .str l=>some (.string ⟨l.toArray⟩)
 | .sv i=>match aA V.ς i with | some l=>some (.string ⟨l.toArray⟩) | none=>none
 | .sl a off len cap=>qS V.toPE a off len cap
 | .pt a off=>HV V.toPE a off
 | .cl a off=>nc V.toPE a off
 | .rc r off=>tJ V.toPE r off
 | .ptr id off=>match V.E id with | some p=>some (.pointer (some ⟨p.1,off,none⟩)) | none=>none
 | .nilp=>some (.pointer none)
 | .slice id off len cap skip=>match V.E id with | some p=>some (.slice (some ⟨p.1,off,none⟩) len (eG cap p.2 skip)) | none=>none
 | .nils=>some (.slice none 0 0)
 | .map id=>match V.E id with | some p=>some (.map (some p.1)) | none=>none
 | .nilm=>some (.map none)
 | .func fn f c=>match concL V f,concL V c with | some f,some c=>some (.func fn f.toArray c.toArray) | _,_=>none
 | .yield id=>match V.E id with | some p=>some (.func (.yield p.1) #[] #[]) | none=>none
 | .nilf=>some .nilFunc
 | .nili=>some .nilIface
 | .agg l=>match concL V l with | some l=>some (.agg l.toArray) | none=>none
 | .tup l=>match concL V l with | some l=>some (.tuple l.toArray) | none=>none
 | .opq i=>lq V.toPE i
 | .whole r=>match aA V.ρ r with | some l=>some (.tuple l.toArray) | none=>none
where concL (V:az):List AV->Option (List Value)
 | []=>some []
 | x::xs=>match x.conc V,concL V xs with | some v,some vs=>some (v::vs) | _,_=>none
abbrev concL (V:az):=AV.conc.concL V
def gS:List UInt8->List UInt8->Bool
 | [],[]=>true
 | a::x,b::y=>Nat.beq a.toNat b.toNat&&gS x y
 | _,_=>false
def de:IntKind->IntKind->Bool
 | .i8,.i8 | .i16,.i16 | .i32,.i32 | .i64,.i64 | .u8,.u8 | .u16,.u16 | .u32,.u32 | .u64,.u64=>true
 | _,_=>false
def tt:Option Nat->Option Nat->Bool
 | none,none=>true
 | some a,some b=>Nat.beq a b
 | _,_=>false
def IF:Fn->Fn->Bool
 | .func f,.func g=>Nat.beq f g
 | _,_=>false
def AV.eqb:AV->AV->Bool
 | .bool a,.bool b=>a==b
 | .bx a,.bx b=>a.eqb b
 | .int j a,.int k b=>de j k&&a.eqb b
 | .str a,.str b=>gS a b
 | .sv i,.sv j=>Nat.beq i j
 | .sl a o l c,.sl a' o' l' c'=>Nat.beq a a'&&o.eqb o'&&l.eqb l'&&c.eqb c'
 | .pt a o,.pt a' o'=>Nat.beq a a'&&o.eqb o'
 | .cl a o,.cl a' o'=>Nat.beq a a'&&o.eqb o'
 | .rc a o,.rc a' o'=>Nat.beq a a'&&o.eqb o'
 | .ptr a b,.ptr c d=>Nat.beq a c&&Nat.beq b d
 | .nilp,.nilp=>true
 | .slice a b c d e,.slice a' b' c' d' e'=>Nat.beq a a'&&Nat.beq b b'&&Nat.beq c c'&&tt d d'&&Nat.beq e e'
 | .nils,.nils=>true
 | .map a,.map b=>Nat.beq a b
 | .nilm,.nilm=>true
 | .func f a b,.func f' a' b'=>IF f f'&&eqbL a a'&&eqbL b b'
 | .yield a,.yield b=>Nat.beq a b
 | .nilf,.nilf=>true
 | .nili,.nili=>true
 | .agg a,.agg b=>eqbL a b
 | .tup a,.tup b=>eqbL a b
 | .opq a,.opq b=>Nat.beq a b
 | .whole a,.whole b=>Nat.beq a b
 | _,_=>false
where eqbL:List AV->List AV->Bool
 | [],[]=>true
 | x::xs,y::ys=>AV.eqb x y&&eqbL xs ys
 | _,_=>false
abbrev AV.eqbL:=AV.eqb.eqbL
def AV.cells:AV->List AV
 | .agg l=>l
 | v=>[v]
def AV.one:AV->Bool
 | .agg _ | .tup _ | .whole _=>false
 | _=>true
def bQ:List AV->Bool
 | []=>true
 | x::xs=>x.one&&bQ xs
inductive ef where
 /-- a row of the run's own -/
 | cells (l:List AV) (elem:TypeId)
 /-- a row of the run's own of which the first cells are known -/
 | row (l:List AV) (elem:TypeId)
 /-- a row of which the first cells are known,and that nobody writes -/
 | ro (l:List AV)
 | map (es:List (AV×AV×Nat)) (clock:Nat)
 | defd
 | loop (st:LoopState) (pending:Ex) (tmps:Tr AV) (n:Nat) (defers:Nat)
 | dead
structure cL where
 a:Nat
 r:Nat
 e:TypeId
 len:IE
 cap:IE
 /-- it is a map:the row has its entries -/
 m:Bool:=false
def bB:List cL->Nat->Option cL
 | [],_=>none
 | o::l,a=>bif Nat.beq o.a a then some o else bB l a
def bc:List cL->Nat->List cL
 | [],_=>[]
 | o::l,a=>bif Nat.beq o.a a then bc l a else o::bc l a
def cL.eqb (x y:cL):Bool:=Nat.beq x.a y.a&&Nat.beq x.r y.r&&Nat.beq x.e y.e&&x.len.eqb y.len&&x.cap.eqb y.cap&&(x.m==y.m)
structure S where
 heap:Tr ef
 next:Nat
 know:ew
 /-- how many variables there are:truth values,strings,values,rows -/
 nb:Nat
 ns:Nat
 nv:Nat
 nr:Nat
 /-- cells whose values are known -/
 memo:List (AV×AV)
 own:List cL:=[]
structure A where
 tmps:Tr AV
 n:Nat
 marks:List Nat
structure TI where
 desc:TypeDesc
 size:Nat
 bytes:Nat
 zero:Option AV
structure FI where
 code:Code
 ntmps:Nat
 results:List ResultVar
inductive Kd where
 | i (k:IntKind)
 | b
 | s
 | r
 | v
 | sl
structure Sig where
 args:List Kd
 grp:List (Option Nat)
 res:List Kd
 rgrp:List (Option Nat)
structure pA where
 key:Nat×Nat
 cells:List (Nat×Nat×Kd)
 tmps:List (Tmp×Kd)
 /-- slices of the run's own that a temporary holds:the element's type -/
 otmps:List (Tmp×TypeId):=[]
 /-- rows of the run's own that it writes -/
 rows:List Nat:=[]
structure G where
 ty:Tr TI
 fn:Tr FI
 /-- functions with contracts -/
 specs:List (Nat×FuncId×Sig)
 loops:List pA
 /-- types of structs that '==' may compare -/
 eqs:List TypeId
 /-- types of maps whose entries are not known one by one -/
 smaps:List TypeId:=[]
 /-- functions that put an element into a slice of the run's own,or take one out -/
 trs:List (FuncId×Bool×TypeId):=[]
 /-- slices in the memory:nothing is asked of their capacities -/
 slw:Bool:=false
inductive gA where
 | code (e:Ex) (a:A) (s:S)
 | val (v:AV) (s:S)
 /-- the end of a round,with values -/
 | again (vs:List AV)
 | err (n:Nat)
inductive uA where
 | val (v:AV) (s:S)
 | enter (f:FuncId) (args:List AV)
 | yield (l:Nat) (args:List AV)
 | err (n:Nat)
def Bj:Value->Option AV
 | .bool b=>some (.bool b)
 | .int k n=>some (.int k (.lit n))
 | .string s=>some (.str s.data.toList)
 | .pointer none=>some .nilp
 | .slice none 0 0=>some .nils
 | .map none=>some .nilm
 | .nilFunc=>some .nilf
 | .nilIface=>some .nili
 | _=>none
def xc:List Value->Option (List AV)
 | []=>some []
 | x::xs=>match Bj x,xc xs with | some v,some vs=>some (v::vs) | _,_=>none
def gK:Value->Option AV
 | .agg cs=>match xc cs.toList with | some l=>some (.agg l) | none=>none
 | .tuple cs=>match xc cs.toList with | some l=>some (.tup l) | none=>none
 | v=>Bj v
def gx:AV := .tup []
def A.put (a:A) (d:Option Tmp) (v:AV):Option A:=
 match d with
 | none=>some a
 | some d=>bif Nat.blt d a.n&&Nat.blt d eY then some { a with tmps:=Tr.set 64 a.tmps d v } else none
def ei (a:A) (s:S):Operand->Option AV
 | .tmp t=>a.tmps.get t
 | .const v=>gK v
 | .global g=>match s.heap.get (2*g+1) with | some _=>some (.ptr (2*g+1) 0) | none=>none
 | .func f=>some (.func (.func f) [] [])
def Fz (a:A) (s:S):List Operand->Option (List AV)
 | []=>some []
 | x::xs=>match ei a s x,Fz a s xs with | some v,some vs=>some (v::vs) | _,_=>none
def iD (s:S) (b:ef):Option (Nat×S):=
 bif Nat.beq (Nat.mod s.next 2) 0&&Nat.blt s.next eY then
  match s.heap.get s.next with
  | some _=>none
  | none=>some (s.next,{ s with heap:=Tr.set 64 s.heap s.next b,next:=Nat.add s.next 2 })
 else none
def ef.list? :ef->Option (List AV)
 | .cells l _ | .row l _ | .ro l=>some l
 | _=>none
def j9 (s:S) (id off n:Nat):Option (List AV):=
 match s.heap.get id with
 | some b=>match b.list? with | some l=>gn n (jp l off) | none=>none
 | none=>none
def nU (s:S) (id off:Nat) (vs:List AV):Option S:=
 bif Nat.blt id eY&&bQ vs then
  match s.heap.get id with
  | some (.cells l e)=>bif Nat.ble (Nat.add off (bF vs)) (bF l) then some { s with heap:=Tr.set 64 s.heap id (.cells (Bo l off vs) e) } else none
  | some (.row l e)=>bif Nat.ble (Nat.add off (bF vs)) (bF l) then some { s with heap:=Tr.set 64 s.heap id (.row (Bo l off vs) e) } else none
  | _=>none
 else none
def fa:TypeDesc->Bool
 | .struct _ | .array _ _=>true
 | _=>false
def Bl (g:G) (s:S) (t:TypeId) (id off:Nat):Option AV:=
 match g.ty.get t with
 | some ti=>
  bif fa ti.desc then (match j9 s id off ti.size with | some l=>some (.agg l) | none=>none)
  else (match j9 s id off 1 with | some [v]=>some v | _=>none)
 | none=>none
def iw (g:G) (t:TypeId) (cs:List AV) (off:Nat):Option AV:=
 match g.ty.get t with
 | some ti=>
  bif fa ti.desc then (match gn ti.size (jp cs off) with | some l=>some (.agg l) | none=>none)
  else aA cs off
 | none=>none
def cP {α:Type}:Nat->List α->List α
 | 0,_=>[]
 | n+1,l=>l++cP n l
def sB (place:Nat->Option (Nat×Nat)) (cells:List AV):List (Nat×AV)->Option (List AV)
 | []=>some cells
 | (i,v)::rest=>
  match place i with
  | none=>none
  | some (off,size)=>bif Nat.beq (bF v.cells) size&&Nat.ble (Nat.add off size) (bF cells)&&bQ v.cells then sB place (aE cells off v.cells) rest else none
def rv (g:G):List Field->Option (List (Nat×Nat))
 | []=>some []
 | f::fs=>match g.ty.get f.type,rv g fs with | some ti,some l=>some ((f.offset,ti.size)::l) | _,_=>none
def oB (a:A) (s:S):List (Nat×Operand)->Option (List (Nat×AV))
 | []=>some []
 | (i,x)::xs=>match ei a s x,oB a s xs with | some v,some vs=>some ((i,v)::vs) | _,_=>none
def eqFields (rec:TypeId->AV->AV->Option Bool) (g:G) (xs ys:List AV):List Field->Option Bool
 | []=>some true
 | f :: fs =>
  bif f.name=="_" then none else
  match iw g f.type xs f.offset,iw g f.type ys f.offset with
  | some x,some y=>match rec f.type x y with
   | some true=>eqFields rec g xs ys fs
   | some false=>some false
   | none=>none
  | _,_=>none
def kS (l:List Nat) (t:Nat):Bool:=match l with | []=>false | x::xs=>Nat.beq x t||kS xs t
def vD (g:G) (K:ew):Nat->TypeId->AV->AV->Option Bool
 | 0,_,_,_=>none
 | d + 1, t, x, y =>
  match g.ty.get t with
  | none=>none
  | some ti=>
   match ti.desc,x,y with
   | .bool,.bool a,.bool b=>some (a==b)
   | .int _,.int k a,.int k' b=>bif de k k' then H1 K a b else none
   | .string,.str a,.str b=>some (gS a b)
   | .pointer _,.nilp,.nilp=>some true
   | .pointer _,.nilp,.ptr _ _=>some false
   | .pointer _,.ptr _ _,.nilp=>some false
   | .slice _,.nils,.nils=>some true
   | .slice _,.nils,.slice _ _ _ _ _=>some false
   | .slice _,.slice _ _ _ _ _,.nils=>some false
   | .map _ _,.nilm,.nilm=>some true
   | .map _ _,.nilm,.map _=>some false
   | .map _ _,.map _,.nilm=>some false
   | .func _ _ _,.nilf,.nilf=>some true
   | .func _ _ _,.nilf,.func _ _ _=>some false
   | .func _ _ _,.func _ _ _,.nilf=>some false
   | .struct fields,.agg xs,.agg ys=>bif kS g.eqs t then eqFields (vD g K d) g xs ys fields.toList else none
   | _,_,_=>none
def lg:IE->Option Int
 | .lit n=>some n
 | _=>none
def wX (K : ew) (op : BinOp) (k : IntKind) (x y : IE) : Option AV :=
 match op with
 | .add=>match xZ K k (eA x y) with | some e=>some (.int k e) | none=>none
 | .sub=>match xZ K k (we x y) with | some e=>some (.int k e) | none=>none
 | .mul=>match lg x,lg y with | some a,some b=>some (.int k (.lit (k.wrap (a*b)))) | _,_=>none
 | .quo=>match lg x,lg y with | some a,some b=>bif Er b 0 then none else some (.int k (.lit (k.wrap (a.tdiv b)))) | _,_=>none
 | .rem=>match lg x,lg y with | some a,some b=>bif Er b 0 then none else some (.int k (.lit (a.tmod b))) | _,_=>none
 | .eql=>match H1 K x y with | some b=>some (.bool b) | none=>none
 | .neq=>match H1 K x y with | some b=>some (.bool (!b)) | none=>none
 | .leq=>match CJ K x y with | some b=>some (.bool b) | none=>none
 | .gtr=>match CJ K x y with | some b=>some (.bool (!b)) | none=>none
 | .geq=>match CJ K y x with | some b=>some (.bool b) | none=>none
 | .lss=>match CJ K y x with | some b=>some (.bool (!b)) | none=>none
 | .and | .or | .xor | .andNot =>
  match lg x,lg y with
  | some a, some b =>
   let r:Nat:=match op with
    | .and=>Nat.land (a % (2 ^ k.bits:Int)).toNat (b % (2 ^ k.bits:Int)).toNat
    | .or=>Nat.lor (a % (2 ^ k.bits:Int)).toNat (b % (2 ^ k.bits:Int)).toNat
    | .xor=>Nat.xor (a % (2 ^ k.bits:Int)).toNat (b % (2 ^ k.bits:Int)).toNat
    | _=>Nat.land (a % (2 ^ k.bits:Int)).toNat (2 ^ k.bits-1-(b % (2 ^ k.bits:Int)).toNat)
   some (.int k (.lit (k.wrap r)))
  | _,_=>none
 | _=>none
def rD (op:BinOp) (k:IntKind) (x y:IE):Option AV:=
 match lg x,lg y with
 | some a, some b =>
  bif lf 0 b then
   match op with
   | .shl=>some (.int k (.lit (k.wrap (a*2 ^ (min b.toNat k.bits)))))
   | .shr=>some (.int k (.lit (a.fdiv (2 ^ (min b.toNat k.bits)))))
   | _=>none
  else none
 | _,_=>none
def Fk (op:BinOp) (a b:List UInt8):Option AV:=
 match op with
 | .add=>bif Nat.ble (Nat.add (bF a) (bF b)) 9223372036854775807 then some (.str (a++b)) else none
 | .eql=>some (.bool (gS a b))
 | .neq=>some (.bool (!gS a b))
 | _=>none
def Iv (g:G) (K:ew) (op:BinOp) (t:TypeId) (x y:AV):Option AV:=
 match op,x,y with
 | .shl,.int k a,.int _ b=>rD .shl k a b
 | .shr,.int k a,.int _ b=>rD .shr k a b
 | op,.int k a,.int k' b=>bif de k k' then wX K op k a b else none
 | op,.str a,.str b=>Fk op a b
 | .eql,x,y=>match vD g K 100 t x y with | some b=>some (.bool b) | none=>none
 | .neq,x,y=>match vD g K 100 t x y with | some b=>some (.bool (!b)) | none=>none
 | _,_,_=>none
def Kl (K:ew) (op:UnOp) (x:AV):Option AV:=
 match op,x with
 | .not,.bool b=>some (.bool (!b))
 | .neg,.int k e=>wX K .sub k (.lit 0) e
 | .xor,.int k e=>wX K .xor k (.lit (bif k.signed then -1 else k.max)) e
 | _,_=>none
def nq:List UInt8->List AV
 | []=>[]
 | b::l => .int .u8 (.lit (Int.ofNat b.toNat))::nq l
def rW:List AV->Option (List UInt8)
 | []=>some []
 | .int .u8 (.lit n)::l=>(match rW l with | some r=>some (UInt8.ofNat n.toNat::r) | none=>none)
 | _=>none
def qM (x:AV):Option Nat:=
 match x with
 | .int _ (.lit (.ofNat n))=>some n
 | _=>none
def H5 (g:G) (K:ew) (t:TypeId) (x y:AV):Option Bool:=vD g K 100 t x y
def gO:List AV->Bool
 | []=>true
 | .bool _::l=>gO l
 | .int _ _::l=>gO l
 | .str _::l=>gO l
 | _=>false
def mD (rec:TypeId->AV->Bool) (g:G) (xs:List AV):List Field->Bool
 | []=>true
 | f::fs=>(match iw g f.type xs f.offset with | some y=>rec f.type y | none=>false)&&mD rec g xs fs
def db (g:G):Nat->TypeId->AV->Bool
 | 0,_,_=>false
 | d + 1, t, x =>
  match g.ty.get t with
  | none=>false
  | some ti=>
   match ti.desc,x with
   | .bool,.bool _=>true
   | .int _,.int _ _=>true
   | .string,.str _=>true
   | .struct fields,.agg xs=>gO xs&&mD (db g d) g xs fields.toList
   | _,_=>false
def qG (g:G) (K:ew) (t:TypeId) (k:AV):List (AV×AV×Nat)->Nat->Option (Option (Nat×AV))
 | [],_=>some none
 | (k',v,_)::es,i=>
  match H5 g K t k k' with
  | some true=>some (some (i,v))
  | some false=>qG g K t k es (Nat.succ i)
  | none=>none
def xf (s:S):AV->Option (List (AV×AV×Nat))
 | .nilm=>some []
 | .map id=>match s.heap.get id with | some (.map es _)=>some es | _=>none
 | _=>none
def xV:List (AV×AV×Nat)->Nat->AV->AV->List (AV×AV×Nat)
 | [],_,_,_=>[]
 | (k',v',b)::es,i,k,v=>bif Nat.beq i 0 then (k,v,b)::es else (k',v',b)::xV es (Nat.sub i 1) k v
def wJ:List (AV×AV×Nat)->Nat->List (AV×AV×Nat)
 | [],_=>[]
 | e::es,i=>bif Nat.beq i 0 then es else e::wJ es (Nat.sub i 1)
def cd (a:A) (s:S) (o:Option Operand) (dflt:Nat):Option Nat:=
 match o with
 | none=>some dflt
 | some x=>match ei a s x with | some v=>qM v | none=>none
def zA (g : G) (a : A) (s : S) (t : TypeId) (x : AV) (lo hi mx : Option Operand) : Option AV :=
 match mx with
 | some _=>none
 | none =>
  match g.ty.get t with
  | none=>none
  | some ti =>
   match ti.desc,x with
   | .string,.str l=>
    match cd a s lo 0,cd a s hi (bF l) with
    | some i,some j=>bif Nat.ble i j&&Nat.ble j (bF l) then (match gn (Nat.sub j i) (jp l i) with | some r=>some (.str r) | none=>none) else none
    | _,_=>none
   | .slice e, .slice id off len (some c) skip =>
    match cd a s lo 0,cd a s hi len,g.ty.get e with
    | some i, some j, some te =>
     bif Nat.ble i j&&Nat.ble j c then
      some (.slice id (bif Nat.beq c i then off else Nat.add off (Nat.mul i te.size)) (Nat.sub j i) (some (Nat.sub c i)) (Nat.add skip i))
     else none
    | _,_,_=>none
   | .slice e,.nils=>
    match cd a s lo 0,cd a s hi 0,g.ty.get e with
    | some i,some j,some _=>bif Nat.beq i 0&&Nat.beq j 0 then some .nils else none
    | _,_,_=>none
   | .array n e, .ptr id off =>
    match cd a s lo 0,cd a s hi n,g.ty.get e with
    | some i, some j, some te =>
     bif Nat.ble i j&&Nat.ble j n then
      some (.slice id (bif Nat.beq n i then off else Nat.add off (Nat.mul i te.size)) (Nat.sub j i) (some (Nat.sub n i)) i)
     else none
    | _,_,_=>none
   | _,_=>none
def zB (g : G) (a : A) (s : S) (t : TypeId) (x : AV) (lo hi mx : Option Operand) : Option AV :=
 match mx with
 | some _=>none
 | none =>
  match g.ty.get t with
  | none=>none
  | some ti =>
   match ti.desc,x with
   | .slice e, .slice id off len none skip =>
    match cd a s lo 0,cd a s hi len,g.ty.get e,s.heap.get id with
    | some i, some j, some te, some (.row l e') =>
     bif Nat.beq e e'&&Nat.ble i j&&Nat.ble (Nat.mul (Nat.add skip j) te.size) (bF l) && !Nat.beq te.size 0&&(Nat.beq i 0||Nat.blt (Nat.mul (Nat.add skip i) te.size) (bF l)) then
      some (.slice id (bif Nat.beq i 0 then off else Nat.add off (Nat.mul i te.size)) (Nat.sub j i) none (Nat.add skip i))
     else none
    | _,_,_,_=>none
   | _,_=>none
def gt (s:S) (size:Nat):AV->Option (Nat×List AV)
 | .nils=>some (0,[])
 | .slice id off len _ _=>match j9 s id off (Nat.mul len size) with | some l=>some (len,l) | none=>none
 | .str l=>bif Nat.beq size 1 then some (bF l,nq l) else none
 | _=>none
def iT (s:S) (te:TI) (y:AV) (zeros:Bool):Option (Nat×List AV):=
 bif zeros then
  match qM y,te.zero with
  | some n,some z=>bif Nat.ble n 1000000&&Nat.ble te.bytes 1000000&&Nat.beq (bF z.cells) te.size then some (n,cP n z.cells) else none
  | _,_=>none
 else gt s te.size y
def z8 (te:TI):Bool:=match te.zero with | some z=>Nat.beq (bF z.cells) te.size | none=>false
def re (g : G) (s : S) (t : TypeId) (x y : AV) (zeros : Bool) : Option (AV × S) :=
 match g.ty.get t with
 | some ti =>
  match ti.desc with
  | .slice e =>
   match g.ty.get e with
   | some te =>
    match iT s te y zeros with
    | some (n, new) =>
     bif Nat.beq te.size 0||Nat.beq te.bytes 0 || !bQ new || !z8 te then none else
     match x with
     | .nils =>
      bif Nat.beq n 0 then some (.nils,s) else
      bif Nat.ble (Nat.mul (Nat.mul 2 n) te.bytes) 281474976710656 then
       match iD s (.row new e) with
       | some (id,s)=>some (.slice id 0 n none 0,s)
       | none=>none
      else none
     | .slice id 0 len none 0 =>
      match s.heap.get id with
      | some (.row l e') =>
       bif !Nat.beq e e' then none else
       bif Nat.ble (Nat.mul (Nat.add len n) te.size) (bF l) then
        match nU s id (Nat.mul len te.size) new with
        | some s'=>some (.slice id 0 (Nat.add len n) none 0,s')
        | none=>none
       else
        match gn (Nat.mul len te.size) l with
        | some old =>
         bif Nat.blt id eY&&Nat.ble (Nat.mul (Nat.mul 2 (Nat.add len n)) te.bytes) 281474976710656 then
          match iD { s with heap:=Tr.set 64 s.heap id .dead } (.row (old++new) e) with
          | some (id',s)=>some (.slice id' 0 (Nat.add len n) none 0,s)
          | none=>none
         else none
        | none=>none
      | _=>none
     | .slice id off len (some c) sk =>
      bif Nat.ble (Nat.add len n) c then
       match nU s id (Nat.add off (Nat.mul len te.size)) new with
       | some s'=>some (.slice id off (Nat.add len n) (some c) sk,s')
       | none=>none
      else
       match j9 s id off (Nat.mul len te.size) with
       | some old =>
        bif Nat.ble (Nat.mul (Nat.mul 2 (Nat.add len n)) te.bytes) 281474976710656 then
         match iD s (.row (old++new) e) with
         | some (id',s)=>some (.slice id' 0 (Nat.add len n) none 0,s)
         | none=>none
        else none
       | none=>none
     | _=>none
    | none=>none
   | none=>none
  | _=>none
 | none=>none
def Av (s:S) (id:Nat) (e:TypeId) (te:TI) (cap:Option Nat) (skip m:Nat):Bool:=
 match cap with
 | some c=>Nat.ble m c
 | none=>match s.heap.get id with
  | some (.row l e')=>Nat.beq e e'&&Nat.ble (Nat.mul (Nat.add skip m) te.size) (bF l) && !Nat.beq te.size 0
  | _=>false
def wc (g : G) (a : A) (s : S) (t : TypeId) (x : AV) (lo : Option Operand) (hi mx : Operand) : Option AV :=
 match g.ty.get t with
 | none=>none
 | some ti =>
  match ti.desc,x with
  | .slice e, .slice id off len cap skip =>
   match cd a s lo 0,cd a s (some hi) 0,cd a s (some mx) 0,g.ty.get e with
   | some i, some j, some m, some te =>
    bif Nat.ble i j&&Nat.ble j m&&Av s id e te cap skip m then
     some (.slice id (bif Nat.beq m i then off else Nat.add off (Nat.mul i te.size)) (Nat.sub j i) (some (Nat.sub m i)) (Nat.add skip i))
    else none
   | _,_,_,_=>none
  | .slice e,.nils=>
   match cd a s lo 0,cd a s (some hi) 0,cd a s (some mx) 0,g.ty.get e with
   | some i,some j,some m,some _=>bif Nat.beq i 0&&Nat.beq j 0&&Nat.beq m 0 then some .nils else none
   | _,_,_,_=>none
  | _,_=>none
def zC (g:G) (a:A) (s:S) (t:TypeId) (x:AV) (lo hi mx:Option Operand):Option AV:=
 match hi,mx with
 | some h,some m=>wc g a s t x lo h m
 | _,_=>zB g a s t x lo hi mx
def yl (g : G) (s : S) (t : TypeId) (x : AV) : Option S :=
 match g.ty.get t with
 | some ti =>
  match ti.desc,x with
  | .slice _,.nils=>some s
  | .slice e, .slice id off n _ _ =>
   match g.ty.get e with
   | some te=>
    match te.zero with
    | some z=>bif Nat.beq n 0 then some s else bif Nat.beq (bF z.cells) te.size then nU s id off (cP n z.cells) else none
    | none=>none
   | none=>none
  | _,_=>none
 | none=>none
def DX (g : G) (s : S) (t : TypeId) (x y : AV) : Option (Nat × S) :=
 match g.ty.get t with
 | some ti =>
  match ti.desc with
  | .slice e =>
   match g.ty.get e with
   | some te =>
    match gt s te.size y with
    | some (n, l) =>
     match x with
     | .slice id off m _ _ =>
      let k:=Nat.min n m
      (match gn (Nat.mul k te.size) l with
       | some vs=>(match nU s id off vs with | some s=>some (k,s) | none=>none)
       | none=>none)
     | .nils=>some (0,s)
     | _=>none
    | none=>none
   | none=>none
  | _=>none
 | none=>none
def pL (K : ew) (mx : Bool) : AV -> List AV -> Option AV
 | x,[]=>some x
 | .int k a, .int _ b :: r =>
  (match CJ K a b with
   | some t=>match CJ K b a with
    | some u=>pL K mx (.int k (bif mx then (bif t && !u then b else a) else (bif u && !t then b else a))) r
    | none=>none
   | none=>none)
 | _,_=>none
def I2 (r:Option (Nat×S)) (f:Nat->AV) (n:Nat):uA:=match r with | some (id,s) => .val (f id) s | none => .err n
def Ki (r:Option AV) (s:S) (n:Nat):uA:=match r with | some v => .val v s | none => .err n
def om (g : G) (s : S) (b : Builtin) (ats : Array TypeId) (args : List AV) : uA :=
 match b,ats.toList,args with
 | .len, t :: _, x :: _ => match g.ty.get t with
  | some ti=>(match ti.desc,xf s x with
   | .map _ _,some es => .val (.int .i64 (.lit (Int.ofNat (bF es)))) s
   | _,_ => .err 30)
  | none => .err 31
 | .append, [t, u], [x, y] => match g.ty.get u with
  | some tu=>(match tu.desc with
   | .int _=>(match re g s t x y true with | some (v,s) => .val v s | none => .err 32)
   | _=>(match re g s t x y false with | some (v,s) => .val v s | none => .err 33))
  | none => .err 34
 | .copy,t::_,[x,y]=>match DX g s t x y with | some (n,s) => .val (.int .i64 (.lit (Int.ofNat n))) s | none => .err 44
 | .clear,t::_,[x]=>match yl g s t x with | some s => .val (.tup []) s | none => .err 45
 | .delete, t :: _, [m, k] => match g.ty.get t, m with
  | some ti, .map id => (match ti.desc, s.heap.get id with
   | .map kt _, some (.map es clock) =>
    bif db g 100 kt k&&Nat.blt id eY then
     match qG g s.know kt k es 0 with
     | some (some (i,_)) => .val (.tup []) { s with heap:=Tr.set 64 s.heap id (.map (wJ es i) clock) }
     | some none => .val (.tup []) s
     | none => .err 37
    else .err 38
   | _,_ => .err 39)
  | _,_ => .err 40
 | _,_,_ => .err 41
def Fa (g:G) (K:ew) (b:Builtin) (ats:Array TypeId) (args:List AV):Option AV:=
 match b,ats.toList,args with
 | .len, t :: _, x :: _ => match g.ty.get t with
  | some ti=>(match ti.desc,x with
   | .string,.str l=>some (.int .i64 (.lit (Int.ofNat (bF l))))
   | .slice _,.slice _ _ n _ _=>some (.int .i64 (.lit (Int.ofNat n)))
   | .slice _,.nils=>some (.int .i64 (.lit 0))
   | _,_=>none)
  | none=>none
 | .cap, t :: _, x :: _ => match g.ty.get t with
  | some ti=>(match ti.desc,x with
   | .slice _,.slice _ _ _ (some c) _=>some (.int .i64 (.lit (Int.ofNat c)))
   | .slice _,.nils=>some (.int .i64 (.lit 0))
   | _,_=>none)
  | none=>none
 | .max,_,x::r=>pL K true x r
 | .min,_,x::r=>pL K false x r
 | _,_,_=>none
def HZ (g:G) (s:S) (f:AV) (args:List AV):uA:=
 match f with
 | .func (.func k) first captured=>(match g.fn.get k with | some _ => .enter k ((first++args)++captured) | none => .err (1000+k))
 | .yield l => .yield l args
 | _ => .err 43
def Ia (a:A) (s:S) (c x y:Operand):Option AV:=
 match ei a s c,ei a s x,ei a s y with
 | some (.bool b),some x,some y=>some (bif b then x else y)
 | _,_,_=>none
def EW (g : G) (a : A) (s : S) (t : TypeId) (parts : Array (Nat × Operand)) : Option AV :=
 match g.ty.get t,oB a s parts.toList with
 | some ti, some ps => (match ti.zero with
  | some z => (match ti.desc with
   | .struct fields=>(match rv g fields.toList with
    | some pl=>(match sB (aA pl) z.cells ps with | some cs=>some (.agg cs) | none=>none)
    | none=>none)
   | .array _ e=>(match g.ty.get e with
    | some te=>(match sB (fun i=>some (Nat.mul i te.size,te.size)) z.cells ps with | some cs=>some (.agg cs) | none=>none)
    | none=>none)
   | _=>none)
  | none=>none)
 | _,_=>none
def uY (a:A) (s:S) (x:Operand):Option AV:=
 match ei a s x with
 | some (.ptr id off)=>some (.ptr id off)
 | some (.pt p off)=>some (.pt p off)
 | some (.func (.func f) p q)=>some (.func (.func f) p q)
 | some (.yield l)=>some (.yield l)
 | _=>none
def JN (g:G) (a:A) (s:S) (op:BinOp) (t:TypeId) (x y:Operand):Option AV:=
 match ei a s x,ei a s y with
 | some x,some y=>Iv g s.know op t x y
 | _,_=>none
def Kj (a:A) (s:S) (op:UnOp) (x:Operand):Option AV:=
 match ei a s x with
 | some x=>Kl s.know op x
 | none=>none
def xx (g:G) (a:A) (s:S) (t u:TypeId) (x:Operand):Option AV:=
 match ei a s x,g.ty.get u,g.ty.get t with
 | some (.str l),some tu,some _=>(match tu.desc with
  | .string=>some (.str l)
  | _=>none)
 | some (.sv l),some tu,some _=>(match tu.desc with
  | .string=>some (.sv l)
  | _=>none)
 | some (.int _ e),some tu,some _=>(match tu.desc with
  | .int k=>(match xZ s.know k e with | some e=>some (.int k e) | none=>none)
  | _=>none)
 | _,_,_=>none
def H9 (a:A) (s:S) (fn:Fn) (first captured:Array Operand):Option AV:=
 match Fz a s first.toList,Fz a s captured.toList with
 | some f,some c=>some (.func fn f c)
 | _,_=>none
def EZ (g:G) (a:A) (s:S) (t:TypeId) (x:Operand) (lo hi mx:Option Operand):Option AV:=
 match ei a s x with
 | some x=>zA g a s t x lo hi mx
 | none=>none
def rk (g:G) (t:TypeId) (f:Nat):Option Field:=
 match g.ty.get t with
 | some ti=>(match ti.desc with
  | .struct fields=>aA fields.toList f
  | _=>none)
 | none=>none
def lh (e:IE) (n:Nat):IE:=bif Nat.beq n 0 then e else eA e (.lit (Int.ofNat n))
def tx (g:G) (a:A) (s:S) (t:TypeId) (x:Operand) (f:Nat):Option AV:=
 match ei a s x,rk g t f with
 | some (.ptr id off),some fd=>(match g.ty.get fd.type with
  | some tf=>bif Nat.beq tf.size 0 then none else some (.ptr id (Nat.add off fd.offset))
  | none=>none)
 | some (.pt p off),some fd=>(match g.ty.get fd.type with
  | some tf=>bif Nat.beq tf.size 0 then none else some (.pt p (lh off fd.offset))
  | none=>none)
 | _,_=>none
def EX (g:G) (a:A) (s:S) (t:TypeId) (x:Operand) (f:Nat):Option AV:=
 match ei a s x,rk g t f with
 | some (.agg l),some fd=>iw g fd.type l fd.offset
 | _,_=>none
def tz (g : G) (a : A) (s : S) (t : TypeId) (x i : Operand) : Option AV :=
 match ei a s x,ei a s i,g.ty.get t with
 | some x, some i, some ti => (match qM i with
  | some i => (match ti.desc, x with
   | .array n e,.ptr id off=>(match g.ty.get e with
    | some te=>bif Nat.blt i n then some (.ptr id (Nat.add off (Nat.mul i te.size))) else none
    | none=>none)
   | .slice e,.slice id off len _ _=>(match g.ty.get e with
    | some te=>bif Nat.blt i len then some (.ptr id (Nat.add off (Nat.mul i te.size))) else none
    | none=>none)
   | _,_=>none)
  | none=>none)
 | _,_,_=>none
def EY (g : G) (a : A) (s : S) (t : TypeId) (x i : Operand) : Option AV :=
 match ei a s x,ei a s i,g.ty.get t with
 | some x, some i, some ti => (match qM i with
  | some i => (match ti.desc, x with
   | .array n e,.agg cs=>(match g.ty.get e with
    | some te=>bif Nat.blt i n then iw g e cs (Nat.mul i te.size) else none
    | none=>none)
   | .string,.str l=>(match aA l i with | some b=>some (.int .u8 (.lit (Int.ofNat b.toNat))) | none=>none)
   | _,_=>none)
  | none=>none)
 | _,_,_=>none
def xy (a:A) (s:S) (t:Operand) (i:Nat):Option AV:=
 match ei a s t with
 | some (.tup l)=>aA l i
 | _=>none
def H8 (g:G) (a:A) (s:S) (c:Call):Option AV:=
 match c.callee with
 | .builtin b=>(match Fz a s c.args.toList with
  | some args=>Fa g s.know b c.argTypes args
  | none=>none)
 | _=>none
def BT (g:G) (a:A) (s:S) (o:Oper):Option AV:=
 match o.op with
 | .move x=>ei a s x
 | .assign x=>ei a s x
 | .pick c x y=>Ia a s c x y
 | .build t parts=>EW g a s t parts
 | .nilCheck x=>uY a s x
 | .binOp op t x y _=>JN g a s op t x y
 | .unOp op _ x=>Kj a s op x
 | .convert t u x=>xx g a s t u x
 | .makeFunc fn first captured=>H9 a s fn first captured
 | .slice t x lo hi mx=>EZ g a s t x lo hi mx
 | .fieldAddr t x f=>tx g a s t x f
 | .field t x f=>EX g a s t x f
 | .indexAddr t x i=>tz g a s t x i
 | .index t x i=>EY g a s t x i
 | .extract t i=>xy a s t i
 | .call c=>H8 g a s c
 | _=>none
def rr (g : G) (a : A) (s : S) (t : TypeId) (m k x : Operand) : uA :=
 match ei a s m,ei a s k,ei a s x,g.ty.get t with
  | some (.map id), some k, some v, some ti => (match ti.desc, s.heap.get id with
   | .map kt _, some (.map es clock) =>
    bif db g 100 kt k&&Nat.blt id eY then
     match qG g s.know kt k es 0 with
     | some (some (i,_))=>(match aA es i with
      | some (k',_,_)=>bif AV.eqb k' k then .val gx { s with heap:=Tr.set 64 s.heap id (.map (xV es i k v) clock) } else .err 22
      | none => .err 22)
     | some none => .val gx { s with heap:=Tr.set 64 s.heap id (.map (es++[(k,v,clock)]) (Nat.succ clock)) }
     | none => .err 22
    else .err 22
   | _,_ => .err 22)
  | _,_,_,_ => .err 22
def Ej (g:G) (s:S) (t:TypeId):uA:=
 match g.ty.get t with
 | some ti=>(match ti.zero with | some z=>I2 (iD s (.cells z.cells t)) (fun id => .ptr id 0) 3 | none => .err 3)
 | none => .err 3
def JF (a:A) (s:S) (t:TypeId) (x:Operand):uA:=
 match ei a s x with
 | some v=>bif bQ v.cells then I2 (iD s (.cells v.cells t)) (fun id => .ptr id 0) 4 else .err 4
 | none => .err 4
def qJ (g : G) (a : A) (s : S) (t : TypeId) (len : Nat) (parts : Array (Nat × Operand)) : uA :=
 match g.ty.get t,oB a s parts.toList with
 | some ti, some ps => (match ti.desc with
  | .slice e => (match g.ty.get e with
   | some te => (match te.zero with
    | some z =>
     bif Nat.beq (bF z.cells) te.size&&Nat.ble (Nat.mul len te.size) 16777216 && !Nat.beq te.size 0 then
      (match sB (fun i => some (Nat.mul i te.size, te.size)) (cP len z.cells) ps with
       | some cs=>I2 (iD s (.cells cs e)) (fun id => .slice id 0 len (some len) 0) 6
       | none => .err 6)
     else .err 6
    | none => .err 6)
   | none => .err 6)
  | _ => .err 6)
 | _,_ => .err 6
def H3 (g:G) (a:A) (s:S) (t:TypeId) (x:Operand):uA:=
 match ei a s x with
 | some (.ptr id off)=>Ki (Bl g s t id off) s 7
 | _ => .err 7
def Em (g:G) (a:A) (s:S) (t:TypeId) (x y:Operand):uA:=
 match ei a s x,ei a s y,g.ty.get t with
 | some (.ptr id off),some v,some ti=>
  bif Nat.beq (bF v.cells) ti.size then (match nU s id off v.cells with | some s => .val gx s | none => .err 8) else .err 8
 | _,_,_ => .err 8
def sO (g : G) (a : A) (s : S) (t : TypeId) (l c : Operand) : uA :=
 match ei a s l,ei a s c,g.ty.get t with
 | some l, some c, some ti => (match qM l, qM c, ti.desc with
  | some l, some c, .slice e => (match g.ty.get e with
   | some te => (match te.zero with
    | some z =>
     bif Nat.beq (bF z.cells) te.size && !Nat.beq te.size 0&&Nat.ble l c&&Nat.ble c 1000000&&Nat.ble te.bytes 1000000 then
      I2 (iD s (.cells (cP c z.cells) e)) (fun id => .slice id 0 l (some c) 0) 15
     else .err 15
    | none => .err 15)
   | none => .err 15)
  | _,_,_ => .err 15)
 | _,_,_ => .err 15
def AZ (g : G) (a : A) (s : S) (t : TypeId) (x k : Operand) (ok : Bool) : uA :=
 match ei a s x,ei a s k,g.ty.get t with
 | some m, some k, some ti => (match ti.desc, xf s m with
  | .map kt et, some es =>
   bif db g 100 kt k then
    match qG g s.know kt k es 0 with
    | some (some (_,v)) => .val (bif ok then .tup [v,.bool true] else v) s
    | some none=>(match g.ty.get et with
     | some te=>(match te.zero with | some z => .val (bif ok then .tup [z,.bool false] else z) s | none => .err 21)
     | none => .err 21)
    | none => .err 21
   else .err 21
  | _,_ => .err 21)
 | _,_,_ => .err 21
def H2 (g:G) (a:A) (s:S) (c:Call):uA:=
 match Fz a s c.args.toList with
 | some args=>(match c.callee with
  | .builtin b=>om g s b c.argTypes args
  | .value f=>(match ei a s f with | some f=>HZ g s f args | none => .err 24)
  | .invoke _ _ => .err 25)
 | none => .err 24
def wU (g : G) (a : A) (s : S) (t u : TypeId) (x : Operand) : uA :=
 match ei a s x,g.ty.get u,g.ty.get t with
 | some (.str l), some tu, some _ => (match tu.desc with
  | .slice e => (match g.ty.get e with
   | some te=>(match te.desc with
    | .int .u8=>bif Nat.blt (bF l) eY&&Nat.beq te.size 1 then I2 (iD s (.row (nq l) e)) (fun id => .slice id 0 (bF l) none 0) 12 else .err 12
    | _ => .err 12)
   | _ => .err 12)
  | _ => .err 12)
 | some (.slice id off len _ _), some tu, some ti => (match ti.desc, tu.desc with
  | .slice e,.string=>(match g.ty.get e,j9 s id off len with
   | some te,some l=>(match te.desc,rW l with | .int .u8,some bs => .val (.str bs) s | _,_ => .err 12)
   | _,_ => .err 12)
  | _,_ => .err 12)
 | some (.nils), some tu, some ti => (match ti.desc, tu.desc with
  | .slice e,.string=>(match g.ty.get e with
   | some te=>(match te.desc with | .int .u8 => .val (.str []) s | _ => .err 12)
   | _ => .err 12)
  | _,_ => .err 12)
 | _,_,_ => .err 12
def El (g:G) (a:A) (s:S) (t:TypeId) (x:Operand) (lo hi mx:Option Operand):uA:=
 match ei a s x with
 | some x=>(match zC g a s t x lo hi mx with | some v => .val v s | none => .err 16)
 | none => .err 16
def H4 (g:G) (a:A) (s:S) (o:Oper):uA:=
 match o.op with
 | .alloc t=>Ej g s t
 | .box t x=>JF a s t x
 | .buildSlice t len parts=>qJ g a s t len parts
 | .load t x=>H3 g a s t x
 | .store t x y=>Em g a s t x y
 | .makeMap _ none=>I2 (iD s (.map [] 0)) (fun id => .map id) 14
 | .makeSlice t l c=>sO g a s t l c
 | .lookup t x k ok=>AZ g a s t x k ok
 | .mapUpdate t m k x=>rr g a s t m k x
 | .insert t m k x=>rr g a s t m k x
 | .call c=>H2 g a s c
 | .convert t u x=>wU g a s t u x
 | .slice t x lo hi mx=>El g a s t x lo hi mx
 | _ => .err 99
def I1 (g:G) (a:A) (s:S) (o:Oper):uA:=
 match BT g a s o with
 | some v => .val v s
 | none=>H4 g a s o
end
section
@[simp] theorem bt (a b:Nat):Nat.beq a b=decide (a=b):=by
 rw [Bool.eq_iff_iff];simp [Nat.beq_eq]
@[simp] theorem nO (a b:Nat):Nat.ble a b=decide (a<=b):=by
 rw [Bool.eq_iff_iff];simp [Nat.ble_eq]
@[simp] theorem qX (a b:Nat):Nat.blt a b=decide (a<b):=by
 rw [Bool.eq_iff_iff];simp [Nat.blt_eq]
theorem Tr.get_set {α : Type} : ∀ (f : Nat) (t : Tr α) (k : Nat) (x : α) (j : Nat), k + 1 < 2 ^ f -> (Tr.set f t k x).get j = if j = k then some x else t.get j := by
 intro f
 induction f with
 | zero=>intro t k x j h;simp at h
 | succ f ih =>
  intro t k x j h
  have hp:2 ^ (f+1)=2*2 ^ f:=by rw [Nat.pow_succ];omega
  have hpos:0<2 ^ f:=Nat.pos_of_ne_zero (by simp)
  have key : ∀ (l : Tr α) (v : Option α) (r : Tr α), (bif Nat.beq k 0 then Tr.n l (some x) r else bif Nat.beq (Nat.mod k 2) 1 then .n (Tr.set f l (Nat.div k 2) x) v r else .n l v (Tr.set f r (Nat.div (Nat.sub k 1) 2) x)).get j = if j = k then some x else (Tr.n l v r).get j := by
   intro l v r
   by_cases hk:k=0
   ·subst hk
    by_cases hj:j=0
    ·subst hj;simp [Tr.get]
    ·simp [Tr.get,hj]
   ·by_cases ho:k % 2=1
    ·have h1:k / 2+1<2 ^ f\/k / 2+1=2 ^ f:=by omega
     have e1:(bif Nat.beq k 0 then Tr.n l (some x) r else bif Nat.beq (Nat.mod k 2) 1 then .n (Tr.set f l (Nat.div k 2) x) v r else .n l v (Tr.set f r (Nat.div (Nat.sub k 1) 2) x)) = .n (Tr.set f l (k / 2) x) v r:=by
      have:Nat.mod k 2=1:=ho
      simp [hk,this];rfl
     rw [e1]
     by_cases hj0:j=0
     ·subst hj0;simp [Tr.get,show ¬(0=k) by omega]
     ·by_cases hjo:j % 2=1
      ·have e2:∀(l:Tr α) v r,(Tr.n l v r).get j=l.get (j / 2):=by
        intro l v r;have:Nat.mod j 2=1:=hjo;simp [Tr.get,hj0,this];rfl
       rw [e2,e2,ih l (k / 2) x (j / 2) (by omega)]
       by_cases hjk:j=k
       ·subst hjk;simp
       ·have:¬j / 2=k / 2:=by omega
        simp [hjk,this]
      ·have e2:∀(l:Tr α) v r,(Tr.n l v r).get j=r.get ((j-1) / 2):=by
        intro l v r;have:¬Nat.mod j 2=1:=hjo;simp [Tr.get,hj0,this];rfl
       rw [e2,e2]
       have:¬j=k:=by omega
       simp [this]
    ·have e1:(bif Nat.beq k 0 then Tr.n l (some x) r else bif Nat.beq (Nat.mod k 2) 1 then .n (Tr.set f l (Nat.div k 2) x) v r else .n l v (Tr.set f r (Nat.div (Nat.sub k 1) 2) x)) = .n l v (Tr.set f r ((k-1) / 2) x):=by
      have:¬Nat.mod k 2=1:=ho
      simp [hk,this];rfl
     rw [e1]
     by_cases hj0:j=0
     ·subst hj0;simp [Tr.get,show ¬(0=k) by omega]
     ·by_cases hjo:j % 2=1
      ·have e2:∀(l:Tr α) v r,(Tr.n l v r).get j=l.get (j / 2):=by
        intro l v r;have:Nat.mod j 2=1:=hjo;simp [Tr.get,hj0,this];rfl
       rw [e2,e2]
       have:¬j=k:=by omega
       simp [this]
      ·have e2:∀(l:Tr α) v r,(Tr.n l v r).get j=r.get ((j-1) / 2):=by
        intro l v r;have:¬Nat.mod j 2=1:=hjo;simp [Tr.get,hj0,this];rfl
       rw [e2,e2,ih r ((k-1) / 2) x ((j-1) / 2) (by omega)]
       by_cases hjk:j=k
       ·subst hjk;simp
       ·have:¬(j-1) / 2=(k-1) / 2:=by omega
        simp [hjk,this]
  cases t with
  | e =>
   have:=key .e none .e
   have e0:(Tr.n .e (none:Option α) .e).get j=(Tr.e:Tr α).get j:=by
    simp only [Tr.get];cases Nat.beq j 0<;>cases Nat.beq (Nat.mod j 2) 1<;>rfl
   rw [e0] at this
   exact this
  | n l v r=>exact key l v r
theorem Tr.get_set64 {α:Type} (t:Tr α) (k:Nat) (x:α) (j:Nat) (h:k<eY):(Tr.set 64 t k x).get j=if j=k then some x else t.get j:=by
 refine Tr.get_set 64 t k x j ?_
 have h1:eY=9223372036854775808:=rfl
 have h2:(2:Nat) ^ 64=18446744073709551616:=by decide
 rw [h2];omega
theorem cJ {α:Type}:∀(l:List α) (k:Nat),aA l k=l[k]? := by
 intro l
 induction l with
 | nil=>intro k;simp [aA]
 | cons x xs ih=>
  intro k
  cases k with
  | zero=>simp [aA]
  | succ k=>simp [aA,ih,show Nat.sub (k+1) 1=k from rfl]
theorem fD {α:Type}:∀(l:List α) (k:Nat) (y:α),mS l k y=l.set k y:=by
 intro l
 induction l with
 | nil=>intro k y;simp [mS]
 | cons x xs ih=>
  intro k y
  cases k with
  | zero=>simp [mS]
  | succ k=>simp [mS,ih,show Nat.sub (k+1) 1=k from rfl]
theorem ic {α:Type}:∀(l:List α) (k:Nat),jp l k=l.drop k:=by
 intro l
 induction l with
 | nil=>intro k;simp [jp]
 | cons x xs ih=>
  intro k
  cases k with
  | zero=>simp [jp]
  | succ k=>simp [jp,ih,show Nat.sub (k+1) 1=k from rfl]
theorem aO {α:Type}:∀(l:List α),bF l=l.length:=by
 intro l;induction l with
 | nil=>rfl
 | cons x xs ih=>simp [bF,ih]
theorem gL {α:Type}:∀(n:Nat) (l r:List α),gn n l=some r->r=l.take n/\r.length=n/\n<=l.length:=by
 intro n
 induction n with
 | zero=>intro l r h;simp [gn] at h;simp [<-h]
 | succ n ih =>
  intro l r h
  cases l with
  | nil=>simp [gn] at h
  | cons x xs =>
   simp only [gn] at h
   split at h
   ·rename_i l' hl'
    cases h
    obtain ⟨h1,h2,h3⟩:=ih xs l' hl'
    simp [h1,h3,Nat.min_eq_left h3]
   ·cases h
theorem oN {α:Type}:∀(xs l:List α) (y:α) (k:Nat),aE (y::l) (k+1) xs=y::aE l k xs:=by
 intro xs
 induction xs with
 | nil=>intro l y k;rfl
 | cons x xs ih=>intro l y k;exact ih (mS l k x) y (k+1)
theorem uT {α:Type}:∀(xs:List α) (k:Nat),([]:List α)=aE [] k xs:=by
 intro xs
 induction xs with
 | nil=>intro k;rfl
 | cons x xs ih=>intro k;exact ih (k+1)
theorem EI {α:Type}:∀(xs l:List α),Bn l xs=aE l 0 xs:=by
 intro xs
 induction xs with
 | nil=>intro l;cases l<;>rfl
 | cons x xs ih=>
  intro l
  cases l with
  | nil=>exact uT _ _
  | cons y l=>rw [Bn,ih];exact (oN xs l x 0).symm
theorem EJ {α:Type}:∀(l:List α) (k:Nat) (xs:List α),Bo l k xs=aE l k xs:=by
 intro l
 induction l with
 | nil=>intro k xs;exact uT xs k
 | cons y l ih=>
  intro k xs
  cases k with
  | zero=>exact EI xs (y::l)
  | succ k=>rw [oN,<-ih];rfl
theorem fc {α:Type}:∀(vs l:List α) (k:Nat),(aE l k vs).length=l.length:=by
 intro vs
 induction vs with
 | nil=>intro l k;rfl
 | cons x xs ih=>intro l k;simp [aE,ih,fD]
theorem jr {α:Type}:∀(vs l:List α) (k j:Nat),(aE l k vs)[j]? = if k<=j/\j<k+vs.length/\j<l.length then vs[j-k]? else l[j]? := by
 intro vs
 induction vs with
 | nil=>intro l k j;simp only [aE,List.length_nil];rw [if_neg (by omega)]
 | cons x xs ih =>
  intro l k j
  have e:aE l k (x::xs)=aE (l.set k x) (k+1) xs:=by simp [aE,fD]
  rw [e,ih,List.length_set,List.getElem?_set]
  simp only [List.length_cons]
  by_cases h1:j=k
  ·subst h1
   have hn:¬(j+1<=j/\j<j+1+xs.length/\j<l.length):=by omega
   rw [if_neg hn]
   by_cases h2:j<l.length
   ·rw [if_pos (c:=j<=j/\j<j+(xs.length+1)/\j<l.length) ⟨by omega,by omega,h2⟩];simp [h2]
   ·rw [if_neg (c:=j<=j/\j<j+(xs.length+1)/\j<l.length) (fun h=>h2 h.2.2)];simp [h2]
  ·by_cases h3:k+1<=j/\j<k+1+xs.length/\j<l.length
   ·rw [if_pos h3,if_pos (by omega)]
    obtain ⟨m,rfl⟩:∃m,j=k+1+m:=⟨j-(k+1),by omega⟩
    have e1:k+1+m-(k+1)=m:=by omega
    have e2:k+1+m-k=m+1:=by omega
    rw [e1,e2];simp
   ·have hn:¬(k<=j/\j<k+(xs.length+1)/\j<l.length):=by omega
    rw [if_neg h3,if_neg hn]
    have:¬k=j:=fun h=>h1 h.symm
    rw [if_neg this]
theorem dE {α:Type} (n:Nat) (l:List α):(cP n l).length=n*l.length:=by
 induction n with
 | zero=>simp [cP]
 | succ n ih=>simp [cP,ih,Nat.succ_mul,Nat.add_comm]
theorem jG (a b:Int):lf a b=decide (a<=b):=by
 cases a<;>cases b<;>simp [lf]<;>omega
theorem nJ (a b:Int):Er a b=decide (a=b):=by
 cases a<;>cases b<;>simp [Er]<;>omega
theorem IE.eqb_eq:∀(a b:IE),a.eqb b=true->a=b:=by
 intro a
 induction a with
 | lit n=>intro b h;cases b<;>simp [IE.eqb,nJ] at h;rw [h]
 | var i=>intro b h;cases b<;>simp [IE.eqb] at h;rw [h]
 | add a b iha ihb=>intro c h;cases c<;>simp [IE.eqb] at h;rw [iha _ h.1,ihb _ h.2]
 | sub a b iha ihb=>intro c h;cases c<;>simp [IE.eqb] at h;rw [iha _ h.1,ihb _ h.2]
 | mul a b iha ihb=>intro c h;cases c<;>simp [IE.eqb] at h;rw [iha _ h.1,ihb _ h.2]
theorem HS {σ:List Int} {a b:IE} {z:Int} (h:(IE.add a b).val σ=some z):∃x y,a.val σ=some x/\b.val σ=some y/\z=x+y:=by
 simp only [IE.val] at h
 split at h
 ·rename_i x y hx hy;cases h;exact ⟨x,y,hx,hy,rfl⟩
 ·cases h
theorem HU {σ:List Int} {a b:IE} {z:Int} (h:(IE.sub a b).val σ=some z):∃x y,a.val σ=some x/\b.val σ=some y/\z=x-y:=by
 simp only [IE.val] at h
 split at h
 ·rename_i x y hx hy;cases h;exact ⟨x,y,hx,hy,rfl⟩
 ·cases h
theorem HT {σ:List Int} {a b:IE} {z:Int} (h:(IE.mul a b).val σ=some z):∃x y,a.val σ=some x/\b.val σ=some y/\z=x*y:=by
 simp only [IE.val] at h
 split at h
 ·rename_i x y hx hy;cases h;exact ⟨x,y,hx,hy,rfl⟩
 ·cases h
def Up {α:Type} (l m:List α):Prop:=∀i x,aA l i=some x->aA m i=some x
theorem Up.refl {α:Type} (l:List α):Up l l:=fun _ _ h=>h
theorem Up.trans {α:Type} {a b c:List α} (h:Up a b) (k:Up b c):Up a c:=fun i x e=>k i x (h i x e)
theorem Up.app {α:Type} (l r:List α):Up l (l++r):=fun i x h=>by
 rw [cJ] at *
 rw [List.getElem?_append_left (List.getElem?_eq_some_iff.1 h).1];exact h
theorem IE.val_up {σ σ':List Int} (h:Up σ σ'):∀(e:IE) (z:Int),e.val σ=some z->e.val σ'=some z:=by
 intro e
 induction e with
 | lit n=>intro z hz;exact hz
 | var i=>intro z hz;exact h i z hz
 | add a b iha ihb=>intro z hz;obtain ⟨x,y,hx,hy,rfl⟩:=HS hz;simp only [IE.val,iha x hx,ihb y hy]
 | sub a b iha ihb=>intro z hz;obtain ⟨x,y,hx,hy,rfl⟩:=HU hz;simp only [IE.val,iha x hx,ihb y hy]
 | mul a b iha ihb=>intro z hz;obtain ⟨x,y,hx,hy,rfl⟩:=HT hz;simp only [IE.val,iha x hx,ihb y hy]
structure cx (K:ew) (σ:List Int):Prop where
 len:K.rng.length=σ.length
 rng:∀i r,aA K.rng i=some r->∃z,aA σ i=some z/\r.1<=z/\z<=r.2
 le:∀a b t,(a,b,t)∈K.le->∃x y,a.val σ=some x/\b.val σ=some y/\decide (x<=y)=t
 eq:∀a b t,(a,b,t)∈K.eq->∃x y,a.val σ=some x/\b.val σ=some y/\decide (x=y)=t
theorem IE.rng_ok {K:ew} {σ:List Int} (hK:cx K σ):∀(e:IE) (r:Int×Int),e.rng K=some r->∃z,e.val σ=some z/\r.1<=z/\z<=r.2:=by
 intro e
 induction e with
 | lit n=>intro r h;simp [IE.rng] at h;subst h;exact ⟨n,rfl,by simp,by simp⟩
 | var i=>intro r h;exact hK.rng i r h
 | add a b iha ihb =>
  intro r h
  simp only [IE.rng] at h
  split at h
  ·rename_i x y u v ha hb
   cases h
   obtain ⟨p,h1,h2,h3⟩:=iha _ ha;obtain ⟨q,k1,k2,k3⟩:=ihb _ hb
   exact ⟨p+q,by simp only [IE.val,h1,k1],by simp only at *;omega,by simp only at *;omega⟩
  ·cases h
 | sub a b iha ihb =>
  intro r h
  simp only [IE.rng] at h
  split at h
  ·rename_i x y u v ha hb
   cases h
   obtain ⟨p,h1,h2,h3⟩:=iha _ ha;obtain ⟨q,k1,k2,k3⟩:=ihb _ hb
   exact ⟨p-q,by simp only [IE.val,h1,k1],by simp only at *;omega,by simp only at *;omega⟩
  ·cases h
 | mul a b iha ihb =>
  intro r h
  simp only [IE.rng] at h
  split at h
  ·rename_i x y u v ha hb
   cases c:(lf 0 x&&lf 0 u) with
   | false=>rw [c] at h;cases h
   | true=>
    rw [c] at h;cases h
    simp only [jG,Bool.and_eq_true,decide_eq_true_eq] at c
    obtain ⟨p,h1,h2,h3⟩:=iha _ ha;obtain ⟨q,k1,k2,k3⟩:=ihb _ hb
    simp only at h2 h3 k2 k3
    exact ⟨p*q,by simp only [IE.val,h1,k1],Int.mul_le_mul h2 k2 c.2 (by omega),Int.mul_le_mul h3 k3 (by omega) (by omega)⟩
  ·cases h
theorem qF:∀(l:List (IE×IE×Bool)) (a b:IE) (t:Bool),gV l a b=some t->(a,b,t)∈l:=by
 intro l
 induction l with
 | nil=>intro a b t h;simp [gV] at h
 | cons x xs ih =>
  intro a b t h
  obtain ⟨u,v,w⟩:=x
  simp only [gV] at h
  cases hc:(u.eqb a&&v.eqb b) with
  | true=>
   rw [hc] at h;simp at h;simp at hc
   rw [IE.eqb_eq _ _ hc.1,IE.eqb_eq _ _ hc.2,h];simp
  | false=>rw [hc] at h;simp at h;exact List.mem_cons_of_mem _ (ih _ _ _ h)
theorem i5 {K:ew} {σ:List Int} (hK:cx K σ) (a b:IE) (t:Bool) (h:CJ K a b=some t) {x y:Int} (hx:a.val σ=some x) (hy:b.val σ=some y):decide (x<=y)=t:=by
 have mem:gV K.le a b=some t->decide (x<=y)=t:=fun h=>by
  obtain ⟨x',y',h1,h2,h3⟩:=hK.le _ _ _ (qF _ _ _ _ h)
  rw [hx] at h1;rw [hy] at h2;cases h1;cases h2;exact h3
 unfold CJ at h
 split at h
 ·cases h;simp only [IE.val,Option.some.injEq] at hx hy;subst hx;subst hy;rw [jG]
 ·split at h
  ·rename_i u v p q ha hb
   obtain ⟨z1,e1,h1,h2⟩:=IE.rng_ok hK _ _ ha;obtain ⟨z2,e2,k1,k2⟩:=IE.rng_ok hK _ _ hb
   rw [hx] at e1;rw [hy] at e2;cases e1;cases e2
   simp only at h1 h2 k1 k2
   cases c1:lf v p with
   | true=>rw [c1] at h;simp at h;subst h;rw [jG] at c1;simp at c1;simp;omega
   | false=>
    rw [c1] at h;simp only [cond_false] at h
    cases c2:lf (q+1) u with
    | true=>rw [c2] at h;simp at h;subst h;rw [jG] at c2;simp at c2;simp;omega
    | false=>rw [c2] at h;simp only [cond_false] at h;exact mem h
  ·exact mem h
theorem vC {K:ew} {σ:List Int} (hK:cx K σ) (a b:IE) (t:Bool) (h:H1 K a b=some t) {x y:Int} (hx:a.val σ=some x) (hy:b.val σ=some y):decide (x=y)=t:=by
 have mem:gV K.eq a b=some t->decide (x=y)=t:=fun h=>by
  obtain ⟨x',y',h1,h2,h3⟩:=hK.eq _ _ _ (qF _ _ _ _ h)
  rw [hx] at h1;rw [hy] at h2;cases h1;cases h2;exact h3
 unfold H1 at h
 split at h
 ·cases h;simp only [IE.val,Option.some.injEq] at hx hy;subst hx;subst hy;rw [nJ]
 ·cases c0:a.eqb b with
  | true=>rw [c0] at h;simp at h;subst h;rw [IE.eqb_eq _ _ c0,hy] at hx;cases hx;simp
  | false =>
   rw [c0] at h;simp only [cond_false] at h
   split at h
   ·rename_i u v p q ha hb
    obtain ⟨z1,e1,h1,h2⟩:=IE.rng_ok hK _ _ ha;obtain ⟨z2,e2,k1,k2⟩:=IE.rng_ok hK _ _ hb
    rw [hx] at e1;rw [hy] at e2;cases e1;cases e2
    simp only at h1 h2 k1 k2
    cases c1:lf (v+1) p with
    | true=>rw [c1] at h;simp at h;subst h;rw [jG] at c1;simp at c1;simp;omega
    | false=>
     rw [c1] at h;simp only [cond_false] at h
     cases c2:lf (q+1) u with
     | true=>rw [c2] at h;simp at h;subst h;rw [jG] at c2;simp at c2;simp;omega
     | false=>rw [c2] at h;simp only [cond_false] at h;exact mem h
   ·exact mem h
theorem hD {k:IntKind} {n:Int} (h1:k.min<=n) (h2:n<=k.max):k.wrap n=n:=by
 cases k<;>simp [IntKind.min,IntKind.max,IntKind.wrap,IntKind.signed,IntKind.bits] at * <;> omega
theorem ue {K:ew} {σ:List Int} (hK:cx K σ) (k:IntKind) (e r:IE) (h:xZ K k e=some r) {z:Int} (hz:e.val σ=some z):r.val σ=some (k.wrap z):=by
 unfold xZ at h
 split at h
 ·cases h;simp only [IE.val,Option.some.injEq] at hz ⊢;rw [hz]
 ·split at h
  ·rename_i x y hr
   cases c:(lf k.min x&&lf y k.max) with
   | true=>
    rw [c] at h;simp only [cond_true] at h;cases h
    simp [jG] at c
    obtain ⟨z',e1,h1,h2⟩:=IE.rng_ok hK _ _ hr
    rw [hz] at e1;cases e1
    simp only at h1 h2
    rw [hD (by omega) (by omega)];exact hz
   | false=>rw [c] at h;cases h
  ·cases h
theorem dR {σ:List Int} {a b:IE} {x y:Int} (hx:a.val σ=some x) (hy:b.val σ=some y):(eA a b).val σ=some (x+y):=by
 unfold eA;split
 ·simp only [IE.val,Option.some.injEq] at *;rw [hx,hy]
 ·simp only [IE.val,hx,hy]
theorem o9 {σ:List Int} {a b:IE} {x y:Int} (hx:a.val σ=some x) (hy:b.val σ=some y):(we a b).val σ=some (x-y):=by
 unfold we;split
 ·simp only [IE.val,Option.some.injEq] at *;rw [hx,hy]
 ·simp only [IE.val,hx,hy]
theorem bL {e:IE} {n:Int} (h:lg e=some n):e = .lit n:=by
 cases e<;>simp [lg] at h;rw [h]
theorem BE.eqb_eq:∀(a b:BE),a.eqb b=true->a=b:=by
 intro a
 induction a with
 | var i=>intro b h;cases b<;>simp [BE.eqb] at h;rw [h]
 | le a b=>intro c h;cases c<;>simp [BE.eqb] at h;rw [IE.eqb_eq _ _ h.1,IE.eqb_eq _ _ h.2]
 | eq a b=>intro c h;cases c<;>simp [BE.eqb] at h;rw [IE.eqb_eq _ _ h.1,IE.eqb_eq _ _ h.2]
 | not a iha=>intro c h;cases c<;>simp [BE.eqb] at h;rw [iha _ h]
 | and a b iha ihb=>intro c h;cases c<;>simp [BE.eqb] at h;rw [iha _ h.1,ihb _ h.2]
theorem BE.val_up {σ σ':List Int} {β β':List Bool} (h:Up σ σ') (k:Up β β'):∀(c:BE) (t:Bool),c.val σ β=some t->c.val σ' β'=some t:=by
 intro c
 induction c with
 | var i=>intro t ht;exact k i t ht
 | le a b=>
  intro t ht
  simp only [BE.val] at *
  split at ht
  ·rename_i x y hx hy;rw [IE.val_up h _ _ hx,IE.val_up h _ _ hy];exact ht
  ·cases ht
 | eq a b=>
  intro t ht
  simp only [BE.val] at *
  split at ht
  ·rename_i x y hx hy;rw [IE.val_up h _ _ hx,IE.val_up h _ _ hy];exact ht
  ·cases ht
 | not c ih=>
  intro t ht
  simp only [BE.val] at *
  split at ht
  ·rename_i x hx;rw [ih _ hx];exact ht
  ·cases ht
 | and c d ih1 ih2=>
  intro t ht
  simp only [BE.val] at *
  split at ht
  ·rename_i x y hx hy;rw [ih1 _ hx,ih2 _ hy];exact ht
  ·cases ht
theorem cF {j k:IntKind} (h:de j k=true):j=k:=by
 cases j<;>cases k<;>first | rfl | (simp [de] at h)
theorem iW:∀(a b:List UInt8),gS a b=decide (a=b):=by
 intro a
 induction a with
 | nil=>intro b;cases b<;>simp [gS]
 | cons x xs ih=>
  intro b
  cases b with
  | nil=>simp [gS]
  | cons y ys=>simp [gS,ih,UInt8.toNat_inj]
end
section
structure dr (V V':PE):Prop where
 σ:Up V.σ V'.σ
 β:Up V.β V'.β
 ς:Up V.ς V'.ς
 τ:Up V.τ V'.τ
 ρ:Up V.ρ V'.ρ
 mem:∀b o,V.mem b=some o->V'.mem b=some o
 mem0:V'.mem0=V.mem0
theorem dr.refl (V:PE):dr V V:=⟨Up.refl _,Up.refl _,Up.refl _,Up.refl _,Up.refl _,fun _ _ h=>h,rfl⟩
theorem dr.trans {A B C:PE} (h:dr A B) (k:dr B C):dr A C:=
 ⟨h.σ.trans k.σ,h.β.trans k.β,h.ς.trans k.ς,h.τ.trans k.τ,h.ρ.trans k.ρ,fun b o e=>k.mem b o (h.mem b o e),k.mem0.trans h.mem0⟩
structure eU (V V':az):Prop where
 up:dr V.toPE V'.toPE
 E:∀id p,V.E id=some p->V'.E id=some p
 L:∀id c,V.L id=some c->V'.L id=some c
theorem eU.refl (V:az):eU V V:=⟨dr.refl _,fun _ _ h=>h,fun _ _ h=>h⟩
theorem eU.trans {A B C:az} (h:eU A B) (k:eU B C):eU A C:=
 ⟨h.up.trans k.up,fun i p e=>k.E i p (h.E i p e),fun i p e=>k.L i p (h.L i p e)⟩
structure dM (V V':az):Prop where
 ext:eU V V'
 pe:V'.toPE=V.toPE
theorem dM.refl (V:az):dM V V:=⟨eU.refl V,rfl⟩
instance (V V':az):Coe (dM V V') (eU V V'):=⟨fun h=>h.ext⟩
theorem dC {v x:Value} (h:bK v=some x):x=v/\x.cells = #[x]/\x.oneCell'=true:=by
 cases v<;>simp [bK] at h<;>subst h<;>exact ⟨rfl,rfl,rfl⟩
theorem fI {m m':Mem} (h:∀b o,m b=some o->m' b=some o) {p:Addr} {v:Value} (k:df m p=some v):df m' p=some v:=by
 unfold df at *
 cases hb:m p.block with
 | none=>rw [hb] at k;cases k
 | some o=>rw [h _ _ hb];rw [hb] at k;exact k
theorem bP {σ σ':List Int} (h:Up σ σ') {e:IE} {n:Nat} (k:aQ σ e=some n):aQ σ' e=some n:=by
 unfold aQ at *
 cases he:e.val σ with
 | none=>rw [he] at k;cases k
 | some z=>rw [IE.val_up h _ _ he];rw [he] at k;exact k
theorem ao {σ:List Int} {e:IE} {n:Nat} (k:aQ σ e=some n):e.val σ=some (n:Int):=by
 unfold aQ at k
 split at k
 ·rename_i m he;cases k;exact he
 ·cases k
theorem bN {σ:List Int} {e:IE} {z:Int} (h:e.val σ=some z) (h0:0<=z):aQ σ e=some z.toNat:=by
 unfold aQ
 obtain ⟨n,rfl⟩:=Int.eq_ofNat_of_zero_le h0
 rw [h];rfl
theorem fp {τ τ':List Value} (h:Up τ τ') {a:Nat} {p:Option Addr} (k:aM τ a=some p):aM τ' a=some p:=by
 unfold aM at *
 cases he:aA τ a with
 | none=>rw [he] at k;cases k
 | some z=>rw [h _ _ he];rw [he] at k;exact k
theorem rZ {pe:PE} {a:Nat} {off:IE} {x:Value} (h:nc pe a off=some x):∃p o v,aM pe.τ a=some (some p)/\aQ pe.σ off=some o/\df pe.mem (p.add o)=some v/\bK v=some x:=by
 unfold nc at h
 split at h
 ·rename_i p z hp hz
  unfold ae at h
  split at h
  ·rename_i q o
   split at h
   ·rename_i v hv;exact ⟨q,o,v,hp,by unfold aQ;rw [hz],hv,h⟩
   ·cases h
  ·cases h
 ·cases h
theorem rY {pe:PE} {a:Nat} {off:IE} {p:Addr} {o:Nat} {v x:Value} (h1:aM pe.τ a=some (some p)) (h2:aQ pe.σ off=some o) (h3:df pe.mem (p.add o)=some v) (h4:bK v=some x):nc pe a off=some x:=by
 unfold nc
 rw [h1,ao h2]
 show (match df pe.mem (p.add o) with | some v=>bK v | none=>none)=some x
 rw [h3];exact h4
theorem u9 {pe:PE} {r:Nat} {off:IE} {x:Value} (h:tJ pe r off=some x):∃l o v,aA pe.ρ r=some l/\aQ pe.σ off=some o/\l[o]? = some v/\bK v=some x:=by
 unfold tJ at h
 split at h
 ·rename_i l z hp hz
  unfold br at h
  split at h
  ·rename_i o
   split at h
   ·rename_i v hv;exact ⟨l,o,v,hp,by unfold aQ;rw [hz],hv,h⟩
   ·cases h
  ·cases h
 ·cases h
theorem oX {pe:PE} {r:Nat} {off:IE} {l:List Value} {o:Nat} {v x:Value} (h1:aA pe.ρ r=some l) (h2:aQ pe.σ off=some o) (h3:l[o]? = some v) (h4:bK v=some x):tJ pe r off=some x:=by
 unfold tJ
 rw [h1,ao h2]
 show (match l[o]? with | some v=>bK v | none=>none)=some x
 rw [h3];exact h4
theorem ke {pe:PE} {i:Nat} {x:Value} (h:lq pe i=some x):∃v,aA pe.τ i=some v/\bK v=some x:=by
 unfold lq at h
 split at h
 ·rename_i v hv;exact ⟨v,hv,h⟩
 ·cases h
theorem bX {pe:PE} {a:Nat} {off len cap:IE} {x:Value} (h:qS pe a off len cap=some x):∃p o n c,aM pe.τ a=some p/\aQ pe.σ off=some o/\aQ pe.σ len=some n/\aQ pe.σ cap=some c/\x = .slice (p.map fun p=>p.add o) n c:=by
 unfold qS at h
 split at h
 ·rename_i p o n c h1 h2 h3 h4;cases h;exact ⟨p,o,n,c,h1,h2,h3,h4,rfl⟩
 ·cases h
theorem jf {pe:PE} {a:Nat} {off:IE} {x:Value} (h:HV pe a off=some x):∃p o,aM pe.τ a=some (some p)/\aQ pe.σ off=some o/\x = .pointer (some (p.add o)):=by
 unfold HV at h
 split at h
 ·rename_i p o h1 h2;cases h;exact ⟨p,o,h1,h2,rfl⟩
 ·cases h
theorem DT {pe pe':PE} (k:dr pe pe') {a:Nat} {off:IE} {x:Value} (h:nc pe a off=some x):nc pe' a off=some x:=by
 obtain ⟨p,o,v,h1,h2,h3,h4⟩:=rZ h
 exact rY (fp k.τ h1) (bP k.σ h2) (fI k.mem h3) h4
theorem HE {pe pe':PE} (k:dr pe pe') {r:Nat} {off:IE} {x:Value} (h:tJ pe r off=some x):tJ pe' r off=some x:=by
 obtain ⟨p,o,v,h1,h2,h3,h4⟩:=u9 h
 exact oX (k.ρ _ _ h1) (bP k.σ h2) h3 h4
theorem Hf {pe pe':PE} (k:dr pe pe') {i:Nat} {x:Value} (h:lq pe i=some x):lq pe' i=some x:=by
 obtain ⟨v,h1,h2⟩:=ke h
 simp only [lq,k.τ _ _ h1,h2]
theorem Jl {pe pe':PE} (k:dr pe pe') {a:Nat} {off len cap:IE} {x:Value} (h:qS pe a off len cap=some x):qS pe' a off len cap=some x:=by
 obtain ⟨p,o,n,c,h1,h2,h3,h4,rfl⟩:=bX h
 simp only [qS,fp k.τ h1,bP k.σ h2,bP k.σ h3,bP k.σ h4]
theorem Jk {pe pe':PE} (k:dr pe pe') {a:Nat} {off:IE} {x:Value} (h:HV pe a off=some x):HV pe' a off=some x:=by
 obtain ⟨p,o,h1,h2,rfl⟩:=jf h
 simp only [HV,fp k.τ h1,bP k.σ h2]
theorem aF {V V':az} (h:eU V V') (v:AV):∀x,v.conc V=some x->v.conc V'=some x:=by
 induction v using AV.rec (motive_2:=fun l=>∀vs,concL V l=some vs->concL V' l=some vs) with
 | bool b=>intro x hx;exact hx
 | bx c=>
  intro x hx;simp only [AV.conc] at *
  split at hx
  ·rename_i b hb;rw [BE.val_up h.up.σ h.up.β _ _ hb];exact hx
  ·cases hx
 | int k e=>
  intro x hx;simp only [AV.conc] at *
  split at hx
  ·rename_i b hb;rw [IE.val_up h.up.σ _ _ hb];exact hx
  ·cases hx
 | str l=>intro x hx;exact hx
 | sv i=>
  intro x hx;simp only [AV.conc] at *
  split at hx
  ·rename_i b hb;rw [h.up.ς _ _ hb];exact hx
  ·cases hx
 | sl a o n c=>intro x hx;exact Jl h.up hx
 | pt a o=>intro x hx;exact Jk h.up hx
 | cl a o=>intro x hx;exact DT h.up hx
 | rc r o=>intro x hx;exact HE h.up hx
 | ptr id off=>
  intro x hx;simp only [AV.conc] at *
  split at hx
  ·rename_i p hp;rw [h.E _ _ hp];exact hx
  ·cases hx
 | nilp=>intro x hx;exact hx
 | slice id off len cap skip=>
  intro x hx;simp only [AV.conc] at *
  split at hx
  ·rename_i p hp;rw [h.E _ _ hp];exact hx
  ·cases hx
 | nils=>intro x hx;exact hx
 | map id=>
  intro x hx;simp only [AV.conc] at *
  split at hx
  ·rename_i p hp;rw [h.E _ _ hp];exact hx
  ·cases hx
 | nilm=>intro x hx;exact hx
 | func fn f c ih1 ih2 =>
  intro x hx;simp only [AV.conc] at *
  split at hx
  ·rename_i f' c' hf hc
   have e1:AV.conc.concL V' f=some f':=ih1 _ hf
   have e2:AV.conc.concL V' c=some c':=ih2 _ hc
   rw [e1,e2];exact hx
  ·cases hx
 | yield id=>
  intro x hx;simp only [AV.conc] at *
  split at hx
  ·rename_i p hp;rw [h.E _ _ hp];exact hx
  ·cases hx
 | nilf=>intro x hx;exact hx
 | nili=>intro x hx;exact hx
 | agg l ih =>
  intro x hx;simp only [AV.conc] at *
  split at hx
  ·rename_i l' hl
   have e1:AV.conc.concL V' l=some l':=ih _ hl
   rw [e1];exact hx
  ·cases hx
 | tup l ih =>
  intro x hx;simp only [AV.conc] at *
  split at hx
  ·rename_i l' hl
   have e1:AV.conc.concL V' l=some l':=ih _ hl
   rw [e1];exact hx
  ·cases hx
 | opq i=>intro x hx;exact Hf h.up hx
 | whole r=>
  intro x hx;simp only [AV.conc] at *
  split at hx
  ·rename_i l hl;rw [h.up.ρ _ _ hl];exact hx
  ·cases hx
 | nil=>assumption
 | cons x xs ih1 ih2 =>
  rename_i vs hv
  simp only [concL,AV.conc.concL] at *
  split at hv
  ·rename_i a b ha hb
   rw [ih1 _ ha,ih2 _ hb];exact hv
  ·cases hv
theorem cA (V:az):concL V []=some []:=rfl
theorem ag {V:az} {x:AV} {xs:List AV} {vs:List Value} (h:concL V (x::xs)=some vs):∃v r,vs=v::r/\x.conc V=some v/\concL V xs=some r:=by
 simp only [concL,AV.conc.concL] at h
 split at h
 ·rename_i a b ha hb;cases h;exact ⟨a,b,rfl,ha,hb⟩
 ·cases h
theorem ax {V:az} {x:AV} {xs:List AV} {v:Value} {r:List Value} (h:x.conc V=some v) (k:concL V xs=some r):concL V (x::xs)=some (v::r):=by
 simp only [concL,AV.conc.concL] at *;rw [h,k]
theorem dS {V:az}:∀{l:List AV} {vs:List Value},concL V l=some vs↔l.length=vs.length/\∀(i:Nat) (a:AV) (x:Value),l[i]? = some a->vs[i]? = some x->a.conc V=some x:=by
 intro l
 induction l with
 | nil=>
  intro vs
  constructor
  ·intro h;cases h;simp
  ·intro h;have:=List.length_eq_zero_iff.1 h.1.symm;subst this;rfl
 | cons y ys ih =>
  intro vs
  constructor
  ·intro h
   obtain ⟨v,r,rfl,hv,hr⟩:=ag h
   obtain ⟨h1,h2⟩:=ih.1 hr
   refine ⟨by simp [h1],?_⟩
   intro i a x ha hx
   cases i with
   | zero=>simp at ha hx;rw [<-ha,<-hx];exact hv
   | succ i=>simp at ha hx;exact h2 i a x ha hx
  ·rintro ⟨h1,h2⟩
   cases vs with
   | nil=>simp at h1
   | cons v r=>
    refine ax (h2 0 y v (by simp) (by simp)) (ih.2 ⟨by simpa using h1,fun i a x ha hx=>h2 (i+1) a x (by simpa using ha) (by simpa using hx)⟩)
theorem aW {V:az} {l:List AV} {vs:List Value} (h:concL V l=some vs):vs.length=l.length:=(dS.1 h).1.symm
theorem iK {V:az} {l:List AV} {vs:List Value} (h:concL V l=some vs) {i:Nat} {a:AV} (ha:l[i]? = some a):∃x,vs[i]? = some x/\a.conc V=some x:=by
 obtain ⟨h1,h2⟩:=dS.1 h
 have hi:i<l.length:=(List.getElem?_eq_some_iff.1 ha).1
 exact ⟨vs[i],List.getElem?_eq_getElem (by omega),h2 i a _ ha (List.getElem?_eq_getElem (by omega))⟩
theorem aG {V V':az} (h:eU V V') {l:List AV} {vs:List Value} (hl:concL V l=some vs):concL V' l=some vs:=by
 obtain ⟨h1,h2⟩:=dS.1 hl
 exact dS.2 ⟨h1,fun i a x ha hx=>aF h a x (h2 i a x ha hx)⟩
theorem fP {V:az} {l m:List AV} {vs us:List Value} (h:concL V l=some vs) (k:concL V m=some us):concL V (l++m)=some (vs++us):=by
 induction l generalizing vs with
 | nil=>cases h;exact k
 | cons x xs ih=>
  obtain ⟨v,r,rfl,hv,hr⟩:=ag h
  exact ax hv (ih hr)
theorem nB {V:az} {l:List AV} {vs:List Value} (h:concL V l=some vs) (n:Nat):concL V (l.drop n)=some (vs.drop n):=by
 obtain ⟨h1,h2⟩:=dS.1 h
 exact dS.2 ⟨by simp [h1],fun i a x ha hx=>h2 (n+i) a x (by simpa using ha) (by simpa using hx)⟩
theorem fH {V:az} {l:List AV} {vs:List Value} (h:concL V l=some vs) (n:Nat):concL V (l.take n)=some (vs.take n):=by
 obtain ⟨h1,h2⟩:=dS.1 h
 refine dS.2 ⟨by simp [h1],fun i a x ha hx => ?_⟩
 rw [List.getElem?_take] at ha hx
 split at ha
 ·rename_i hlt;rw [if_pos hlt] at hx;exact h2 i a x ha hx
 ·cases ha
theorem qD {V:az} {l r:List AV} {vs:List Value} {n off:Nat} (h:concL V l=some vs) (ht:gn n (jp l off)=some r) :
  concL V r=some ((vs.drop off).take n)/\off+n<=vs.length/\r.length=n\/concL V r=some []/\n=0/\r=[]:=by
 obtain ⟨h1,h2,h3⟩:=gL _ _ _ ht
 rw [ic] at h1 h3
 by_cases hn:n=0
 ·right;subst hn;simp at h1;subst h1;exact ⟨rfl,rfl,rfl⟩
 ·left
  refine ⟨by rw [h1];exact fH (nB h off) n,?_,h2⟩
  simp at h3;have:=aW h;omega
theorem Co {V:az} {l:List AV} {vs:List Value} (h:concL V l=some vs) {a:AV} {x:Value} (ha:a.conc V=some x) (n:Nat):concL V (l.set n a)=some (vs.set n x):=by
 obtain ⟨h1,h2⟩:=dS.1 h
 refine dS.2 ⟨by simp [h1],fun i b y hb hy => ?_⟩
 rw [List.getElem?_set] at hb hy
 by_cases hn:n=i
 ·subst hn
  simp only [if_true] at hb hy
  by_cases hl:n<l.length
  ·rw [if_pos hl] at hb;rw [if_pos (by omega)] at hy;cases hb;cases hy;exact ha
  ·rw [if_neg hl] at hb;cases hb
 ·rw [if_neg hn] at hb hy;exact h2 i b y hb hy
def dZ:List Value->Nat->List Value->List Value
 | l,_,[]=>l
 | l,k,x::xs=>dZ (l.set k x) (k+1) xs
theorem jI:∀(xs l:List Value) (k:Nat),(dZ l k xs).length=l.length:=by
 intro xs;induction xs with
 | nil=>intro l k;rfl
 | cons x xs ih=>intro l k;simp [dZ,ih]
theorem kK {V:az}:∀{ws:List AV} {us:List Value} {l:List AV} {vs:List Value} (n:Nat),concL V l=some vs->concL V ws=some us->concL V (aE l n ws)=some (dZ vs n us):=by
 intro ws
 induction ws with
 | nil=>intro us l vs n h k;cases k;exact h
 | cons x xs ih=>
  intro us l vs n h k
  obtain ⟨v,r,rfl,hv,hr⟩:=ag k
  have e:aE l n (x::xs)=aE (l.set n x) (n+1) xs:=by simp [aE,fD]
  rw [e]
  exact ih (n+1) (Co h hv n) hr
theorem aC {V:az} {k:IntKind} {e:IE} {x:Value} (h:(AV.int k e).conc V=some x):∃z,e.val V.σ=some z/\x = .int k z:=by
 simp only [AV.conc] at h
 split at h
 ·rename_i z hz;cases h;exact ⟨z,hz,rfl⟩
 ·cases h
theorem dc {V:az} {k:IntKind} {e:IE} {z:Int} (h:e.val V.σ=some z):(AV.int k e).conc V=some (.int k z):=by
 simp only [AV.conc,h]
theorem fm {V:az} {c:BE} {x:Value} (h:(AV.bx c).conc V=some x):∃z,c.val V.σ V.β=some z/\x = .bool z:=by
 simp only [AV.conc] at h
 split at h
 ·rename_i z hz;cases h;exact ⟨z,hz,rfl⟩
 ·cases h
theorem eZ {V:az} {c:BE} {z:Bool} (h:c.val V.σ V.β=some z):(AV.bx c).conc V=some (.bool z):=by
 simp only [AV.conc,h]
theorem mu {V:az} {i:Nat} {x:Value} (h:(AV.sv i).conc V=some x):∃l,aA V.ς i=some l/\x = .string ⟨l.toArray⟩:=by
 simp only [AV.conc] at h
 split at h
 ·rename_i z hz;cases h;exact ⟨z,hz,rfl⟩
 ·cases h
theorem cg {V:az} {l:List AV} {x:Value} (h:(AV.agg l).conc V=some x):∃vs,x = .agg vs.toArray/\concL V l=some vs:=by
 simp only [AV.conc] at h
 split at h
 ·rename_i vs hv;cases h;exact ⟨vs,rfl,hv⟩
 ·cases h
theorem ov {V:az} {l:List AV} {x:Value} (h:(AV.tup l).conc V=some x):∃vs,x = .tuple vs.toArray/\concL V l=some vs:=by
 simp only [AV.conc] at h
 split at h
 ·rename_i vs hv;cases h;exact ⟨vs,rfl,hv⟩
 ·cases h
theorem dT {V:az} {id off:Nat} {x:Value} (h:(AV.ptr id off).conc V=some x):∃p,V.E id=some p/\x = .pointer (some ⟨p.1,off,none⟩):=by
 simp only [AV.conc] at h
 split at h
 ·rename_i p hp;cases h;exact ⟨p,hp,rfl⟩
 ·cases h
theorem aT {V:az} {id off len skip:Nat} {cap:Option Nat} {x:Value} (h:(AV.slice id off len cap skip).conc V=some x) :
  ∃p,V.E id=some p/\x = .slice (some ⟨p.1,off,none⟩) len (eG cap p.2 skip):=by
 simp only [AV.conc] at h
 split at h
 ·rename_i p hp;cases h;exact ⟨p,hp,rfl⟩
 ·cases h
theorem ib {V:az} {id:Nat} {x:Value} (h:(AV.map id).conc V=some x):∃p,V.E id=some p/\x = .map (some p.1):=by
 simp only [AV.conc] at h
 split at h
 ·rename_i p hp;cases h;exact ⟨p,hp,rfl⟩
 ·cases h
theorem nD {V:az} {id:Nat} {x:Value} (h:(AV.yield id).conc V=some x):∃p,V.E id=some p/\x = .func (.yield p.1) #[] #[]:=by
 simp only [AV.conc] at h
 split at h
 ·rename_i p hp;cases h;exact ⟨p,hp,rfl⟩
 ·cases h
theorem fQ {V:az} {fn:Fn} {f c:List AV} {x:Value} (h:(AV.func fn f c).conc V=some x):∃fs cs,concL V f=some fs/\concL V c=some cs/\x = .func fn fs.toArray cs.toArray:=by
 simp only [AV.conc] at h
 split at h
 ·rename_i fs cs hf hc;cases h;exact ⟨fs,cs,hf,hc,rfl⟩
 ·cases h
theorem gd {V:az} {l:List AV} {vs:List Value} (h:concL V l=some vs):(AV.agg l).conc V=some (.agg vs.toArray):=by
 have:AV.conc.concL V l=some vs:=h
 simp only [AV.conc,this]
theorem qv {V:az} {l:List AV} {vs:List Value} (h:concL V l=some vs):(AV.tup l).conc V=some (.tuple vs.toArray):=by
 have:AV.conc.concL V l=some vs:=h
 simp only [AV.conc,this]
theorem AW {V:az} {fn:Fn} {f c:List AV} {fs cs:List Value} (h:concL V f=some fs) (k:concL V c=some cs):(AV.func fn f c).conc V=some (.func fn fs.toArray cs.toArray):=by
 have h1:AV.conc.concL V f=some fs:=h
 have h2:AV.conc.concL V c=some cs:=k
 simp only [AV.conc,h1,h2]
theorem sd {V:az} {v:AV} {x:Value} (h:v.conc V=some x) (h1:v.one=true):x.cells = #[x]/\x.oneCell'=true:=by
 cases v with
 | agg l=>simp [AV.one] at h1
 | tup l=>simp [AV.one] at h1
 | whole r=>simp [AV.one] at h1
 | bool b=>simp only [AV.conc] at h;cases h;exact ⟨rfl,rfl⟩
 | bx c=>obtain ⟨z,_,rfl⟩:=fm h;exact ⟨rfl,rfl⟩
 | int k e=>obtain ⟨z,_,rfl⟩:=aC h;exact ⟨rfl,rfl⟩
 | str l=>simp only [AV.conc] at h;cases h;exact ⟨rfl,rfl⟩
 | sv i=>obtain ⟨l,_,rfl⟩:=mu h;exact ⟨rfl,rfl⟩
 | sl a o n c=>obtain ⟨_,_,_,_,_,_,_,_,rfl⟩:=bX h;exact ⟨rfl,rfl⟩
 | pt a o=>obtain ⟨_,_,_,_,rfl⟩:=jf h;exact ⟨rfl,rfl⟩
 | cl a o=>obtain ⟨_,_,_,_,_,_,h4⟩:=rZ h;exact (dC h4).2
 | rc r o=>obtain ⟨_,_,_,_,_,_,h4⟩:=u9 h;exact (dC h4).2
 | opq i=>obtain ⟨_,_,h4⟩:=ke h;exact (dC h4).2
 | ptr id off=>obtain ⟨_,_,rfl⟩:=dT h;exact ⟨rfl,rfl⟩
 | nilp=>simp only [AV.conc] at h;cases h;exact ⟨rfl,rfl⟩
 | slice a b c d e=>obtain ⟨_,_,rfl⟩:=aT h;exact ⟨rfl,rfl⟩
 | nils=>simp only [AV.conc] at h;cases h;exact ⟨rfl,rfl⟩
 | map id=>obtain ⟨_,_,rfl⟩:=ib h;exact ⟨rfl,rfl⟩
 | nilm=>simp only [AV.conc] at h;cases h;exact ⟨rfl,rfl⟩
 | func fn f c=>obtain ⟨_,_,_,_,rfl⟩:=fQ h;exact ⟨rfl,rfl⟩
 | yield id=>obtain ⟨_,_,rfl⟩:=nD h;exact ⟨rfl,rfl⟩
 | nilf=>simp only [AV.conc] at h;cases h;exact ⟨rfl,rfl⟩
 | nili=>simp only [AV.conc] at h;cases h;exact ⟨rfl,rfl⟩
theorem cC {V:az} {v:AV} {x:Value} (h:v.conc V=some x):concL V v.cells=some x.cells.toList:=by
 by_cases h1:v.one=true
 ·have e:v.cells=[v]:=by cases v<;>first | rfl | (simp [AV.one] at h1)
  rw [e,(sd h h1).1]
  exact ax h (cA V)
 ·cases v with
  | agg l=>obtain ⟨vs,rfl,hv⟩:=cg h;simpa [AV.cells,Value.cells] using hv
  | tup l=>
   obtain ⟨vs,rfl,hv⟩:=ov h
   have:(Value.tuple vs.toArray).cells = #[.tuple vs.toArray]:=rfl
   rw [this];exact ax h (cA V)
  | whole r =>
   have h0:=h
   simp only [AV.conc] at h
   split at h
   ·rename_i l _;cases h
    have:(Value.tuple l.toArray).cells = #[.tuple l.toArray]:=rfl
    rw [this];exact ax h0 (cA V)
   ·cases h
  | _=>simp [AV.one] at h1
theorem xp {V:az} {v:AV} {x:Value} (h:v.conc V=some x) (h1:v.one=true):x.oneCell'=true:=(sd h h1).2
theorem ge {V:az}:∀{l:List AV} {vs:List Value},concL V l=some vs->bQ l=true->∀v∈vs,v.oneCell'=true:=by
 intro l
 induction l with
 | nil=>intro vs h _ v hv;cases h;cases hv
 | cons y ys ih=>
  intro vs h h1 v hv
  obtain ⟨a,r,rfl,ha,hr⟩:=ag h
  simp [bQ] at h1
  cases hv with
  | head=>exact xp ha h1.1
  | tail _ hv=>exact ih hr h1.2 v hv
theorem xb (V:az) {x:Value} {v:AV} (h:Bj x=some v):v.conc V=some x:=by
 unfold Bj at h
 split at h<;>cases h<;>rfl
theorem xd (V:az):∀{xs:List Value} {l:List AV},xc xs=some l->concL V l=some xs:=by
 intro xs
 induction xs with
 | nil=>intro l h;cases h;rfl
 | cons x xs ih=>
  intro l h
  simp only [xc] at h
  split at h
  ·rename_i a b ha hb;cases h;exact ax (xb V ha) (ih hb)
  ·cases h
theorem Bk (V:az) {x:Value} {v:AV} (h:gK x=some v):v.conc V=some x:=by
 unfold gK at h
 split at h
 ·rename_i cs;split at h
  ·rename_i l hl;cases h;simpa using gd (xd V hl)
  ·cases h
 ·rename_i cs;split at h
  ·rename_i l hl;cases h;simpa using qv (xd V hl)
  ·cases h
 ·exact xb V h
open Go.RowKit
theorem bA (w:World) (o:Obj) (k:Nat):(w.alloc o).heap[k]? = if k=w.heap.size then some o else w.heap[k]? := by
 show (w.heap.push o)[k]? = _
 rw [Array.getElem?_push]
theorem fK (w:World) (o:Obj):(w.alloc o).heap.size=w.heap.size+1:=by
 show (w.heap.push o).size=_
 simp
def ui (fz:Nat×Nat) (n:Nat):Prop:=∀o,o<n->¬(fz.1<=o/\o<fz.2)
def oc (V:az) (t:Tr AV) (n:Nat) (tm:Array Value):Prop:=
 tm.size=n/\∀k v,t.get k=some v->v.conc V=some (tm.getD k undef)
def dP (V:az):List (AV×AV×Nat)->List MapEntry->Prop
 | [],[]=>True
 | (k,v,b)::l,e::m=>k.conc V=some e.key/\v.conc V=some e.val/\b=e.born/\dP V l m
 | _,_=>False
def ni (P:Program) (V:az) (b:ef) (id:Nat) (p:Nat×Nat) (o:Option Obj):Prop:=
 match b with
 | .cells l e=>∃vs fz,concL V l=some vs/\o=some (.cells vs.toArray e fz)/\ui fz (vs.length+1)
 | .row l e => ∃ vs rest fz, concL V l = some vs /\ o = some (.cells (vs ++ rest).toArray e fz) /\ ui fz (vs.length + rest.length) /\
   ∀i,P.info? e=some i->vs.length+rest.length=p.2*i.size/\(1<i.size->p.2<=9223372036854775807)
 | .ro l=>∃vs rest e fz,concL V l=some vs/\o=some (.cells (vs++rest).toArray e fz)
 | .map es clock=>∃ms,dP V es ms/\o=some (.map ms.toArray clock)
 | .defd=>o=some (.deferred (some []))
 | .loop st pe t n d => ∃ fn lc pd tm, V.L id = some lc /\ V.E d = some pd /\ oc V t n tm /\
   o=some (.loop { state:=st,pending:=i4 pe,fn:=fn,tmps:=tm,params:=lc.params,assign:=lc.assign,body:=lc.body,defers:=pd.1 })
 | .dead=>True
def ct:ef->Bool
 | .dead | .ro _=>false
 | _=>true
def wY:ef->Bool
 | .ro _=>true
 | _=>false
theorem yb {V V':az} (h:eU V V'):∀{es:List (AV×AV×Nat)} {ms:List MapEntry},dP V es ms->dP V' es ms:=by
 intro es
 induction es with
 | nil=>intro ms hm;cases ms<;>first | trivial | exact hm.elim
 | cons e es ih =>
  intro ms hm
  cases ms with
  | nil=>exact hm.elim
  | cons m ms=>
   obtain ⟨k,v,b⟩:=e
   exact ⟨aF h _ _ hm.1,aF h _ _ hm.2.1,hm.2.2.1,ih hm.2.2.2⟩
theorem jM {V V':az} (h:eU V V') {t:Tr AV} {n:Nat} {tm:Array Value} (k:oc V t n tm):oc V' t n tm:=
 ⟨k.1,fun i v hv=>aF h _ _ (k.2 i v hv)⟩
theorem fL {P:Program} {V V':az} (h:eU V V') {b:ef} {id:Nat} {p:Nat×Nat} {o:Option Obj} (k:ni P V b id p o):ni P V' b id p o:=by
 cases b with
 | cells l e=>obtain ⟨vs,fz,h1,h2,h3⟩:=k;exact ⟨vs,fz,aG h h1,h2,h3⟩
 | row l e=>obtain ⟨vs,rest,fz,h1,h2,h3,h4⟩:=k;exact ⟨vs,rest,fz,aG h h1,h2,h3,h4⟩
 | ro l=>obtain ⟨vs,rest,e,fz,h1,h2⟩:=k;exact ⟨vs,rest,e,fz,aG h h1,h2⟩
 | map es c=>obtain ⟨ms,h1,h2⟩:=k;exact ⟨ms,yb h h1,h2⟩
 | defd=>exact k
 | loop st pe t n d=>obtain ⟨fn,lc,pd,tm,h1,h2,h3,h4⟩:=k;exact ⟨fn,lc,pd,tm,h.L _ _ h1,h.E _ _ h2,jM h h3,h4⟩
 | dead=>trivial
def mX (V:az) (hp:Tr ef) (b:Nat):Prop:=∀id blk p,hp.get id=some blk->ct blk=true->V.E id=some p->p.1≠b
def gP (m:Bool) (q:Option Addr):Value:=match m with | false => .pointer q | true => .map (q.map Addr.block)
def jF (e:MapEntry):Value := .tuple #[e.key,e.val]
def fu (P:Program) (o:cL) (l:List Value) (c:Nat) (ob:Obj):Prop:=
 match o.m with
 | false=>∃rest fz,ob = .cells (l++rest).toArray o.e fz/\ui fz (l.length+rest.length)/\∀i,P.info? o.e=some i->l.length+rest.length=c*i.size
 | true=>∃(ms:List MapEntry) (clock:Nat),ob = .map ms.toArray clock/\l=ms.map jF
def z9 (P:Program) (V:az) (hp:Tr ef) (B w:World) (o:cL):Prop:=
 ∃q l n c,aA V.τ o.a=some (gP o.m q)/\aA V.ρ o.r=some l/\aQ V.σ o.len=some n/\aQ V.σ o.cap=some c/\((n<=c/\c<=9223372036854775807)/\(o.m=false->∀x∈l,bK x=some x))/\
  (o.m=false->∀i,P.info? o.e=some i->l.length=n*i.size)/\(q=none->c=0/\o.m=false)/\
  ∀p,q=some p->p.off=0/\p.spot=none/\B.heap.size<=p.block/\V.mem p.block=none/\mX V hp p.block/\∃ob,w.heap[p.block]? = some ob/\fu P o l c ob
structure yf (P:Program) (V:az) (hp:Tr ef) (own:List cL) (B w:World):Prop where
 nd:(own.map cL.a).Nodup
 ok:∀o∈own,z9 P V hp B w o
 dj:∀o∈own,∀o'∈own,∀p p',o.a≠o'.a->aA V.τ o.a=some (gP o.m (some p))->aA V.τ o'.a=some (gP o'.m (some p'))->p.block≠p'.block
theorem yf.keep {P:Program} {V V':az} {hp hp':Tr ef} {own:List cL} {B w w':World} (h:yf P V hp own B w) (hu:dr V.toPE V'.toPE)
  (hk:∀b o,B.heap.size<=b->w.heap[b]? = some o->V.mem b=none->mX V hp b->V'.mem b=none/\w'.heap[b]? = some o/\mX V' hp' b):yf P V' hp' own B w':=by
 have back:∀o∈own,∀q,aA V'.τ o.a=some (gP o.m q)->aA V.τ o.a=some (gP o.m q):=fun o ho q hq=>by
  obtain ⟨q0,_,_,_,h1,_⟩:=h.ok o ho
  have:=hu.τ _ _ h1;rw [hq] at this;exact h1.trans this.symm
 refine ⟨h.nd,fun o ho => ?_,fun o ho o' ho' p p' hne hp hp'=>h.dj o ho o' ho' p p' hne (back o ho _ hp) (back o' ho' _ hp')⟩
 obtain ⟨q,l,n,c,h1,h2,h3,h4,h5,h6,h7,h8⟩:=h.ok o ho
 refine ⟨q,l,n,c,hu.τ _ _ h1,hu.ρ _ _ h2,bP hu.σ h3,bP hu.σ h4,h5,h6,h7,fun p hp => ?_⟩
 obtain ⟨k1,k2,k3,k4,k5,ob,k6,k7⟩:=h8 p hp
 obtain ⟨m1,m2,m3⟩:=hk p.block _ k3 k6 k4 k5
 exact ⟨k1,k2,k3,m1,m3,ob,m2,k7⟩
structure av (P:Program) (V:az) (s:S) (B w:World):Prop where
 know:cx s.know V.σ
 lens:V.β.length=s.nb/\V.ς.length=s.ns/\V.τ.length=s.nv/\V.ρ.length=s.nr
 memo:∀c v,(c,v)∈s.memo->∃x,c.conc V=some x/\v.conc V=some x
 mem:∀b o,V.mem b=some o->w.heap[b]? = some o/\∀id blk p,s.heap.get id=some blk->ct blk=true->V.E id=some p->p.1≠b
 memB:∀b o,V.mem b=some o->V.mem0 b=some o\/B.heap.size<=b
 below:Below B.heap.size B w
 blk:∀id b,s.heap.get id=some b->∃p,V.E id=some p/\ni P V b id p w.heap[p.1]? /\(ct b=true->B.heap.size<=p.1)/\(wY b=true->p.1<B.heap.size\/∃o,V.mem p.1=some o)
 dom:∀id p,V.E id=some p->∃b,s.heap.get id=some b
 domL:∀id c,V.L id=some c->∃b,s.heap.get id=some b
 inj:∀id id' b b' p p',s.heap.get id=some b->s.heap.get id'=some b'->ct b=true->ct b'=true->V.E id=some p->V.E id'=some p'->p.1=p'.1->id=id'
 glob:∀g p,V.E (2*g+1)=some p->p.1=g
 own:yf P V s.heap s.own B w
def Dy:Option LC->Option LC->Option LC
 | some c,_=>some c
 | none,o=>o
def az.bind (V:az) (id:Nat) (p:Nat×Nat) (lc:Option LC):az:=
 { V with E:=fun j=>if j=id then some p else V.E j,L:=fun j=>if j=id then Dy lc (V.L j) else V.L j }
theorem av.fresh {P:Program} {V:az} {s:S} {B w:World} (h:av P V s B w) {id:Nat} (hf:s.heap.get id=none):V.E id=none/\V.L id=none:=by
 constructor
 ·cases he:V.E id with
  | none=>rfl
  | some p=>obtain ⟨b,hb⟩:=h.dom id p he;rw [hf] at hb;cases hb
 ·cases he:V.L id with
  | none=>rfl
  | some p=>obtain ⟨b,hb⟩:=h.domL id p he;rw [hf] at hb;cases hb
theorem av.ext {P:Program} {V:az} {s:S} {B w:World} (h:av P V s B w) {id:Nat} (hf:s.heap.get id=none) (p:Nat×Nat) (lc:Option LC):eU V (V.bind id p lc):=by
 obtain ⟨h1,h2⟩:=h.fresh hf
 refine ⟨dr.refl _,fun j q hq => ?_,fun j c hc => ?_⟩
 ·show (if j=id then some p else V.E j)=some q
  rw [if_neg (fun e=>by subst e;rw [h1] at hq;cases hq)];exact hq
 ·show (if j=id then Dy lc (V.L j) else V.L j)=some c
  rw [if_neg (fun e=>by subst e;rw [h2] at hc;cases hc)];exact hc
theorem gN {s:S} {b:ef} {id:Nat} {s':S} (h:iD s b=some (id,s')) :
  id % 2=0/\id<eY/\s.heap.get id=none/\s'.heap=Tr.set 64 s.heap id b/\s'={ s with heap:=s'.heap,next:=s'.next }:=by
 unfold iD at h
 cases c:(Nat.beq (Nat.mod s.next 2) 0&&Nat.blt s.next eY) with
 | false=>rw [c] at h;cases h
 | true=>
  rw [c] at h;simp only [cond_true] at h
  simp at c
  split at h
  ·cases h
  ·rename_i hg;cases h;exact ⟨c.1,c.2,hg,rfl,rfl⟩
theorem av.new {P:Program} {V:az} {s s':S} {B w:World} {b:ef} {id:Nat} {o:Obj} {cap:Nat} {lc:Option LC} (h:av P V s B w) (hn:iD s b=some (id,s')) (ho:ct b=true)
  (hl:lc=none\/∃st pe t n d,b = .loop st pe t n d)
  (hb:ni P (V.bind id (w.heap.size,cap) lc) b id (w.heap.size,cap) (some o)) :
  av P (V.bind id (w.heap.size,cap) lc) s' B (w.alloc o)/\dM V (V.bind id (w.heap.size,cap) lc)/\(V.bind id (w.heap.size,cap) lc).E id=some (w.heap.size,cap):=by
 obtain ⟨h0,h1,h2,h3,h4⟩:=gN hn
 have hx:=h.ext h2 (w.heap.size,cap) lc
 have hg:∀j,s'.heap.get j=if j=id then some b else s.heap.get j:=fun j=>by rw [h3];exact Tr.get_set64 _ _ _ _ h1
 have hE:∀j,(V.bind id (w.heap.size,cap) lc).E j=if j=id then some (w.heap.size,cap) else V.E j:=fun j=>rfl
 have hL:∀j,(V.bind id (w.heap.size,cap) lc).L j=if j=id then Dy lc (V.L j) else V.L j:=fun j=>rfl
 refine ⟨⟨by rw [h4];exact h.know,by rw [h4];exact h.lens,fun c v hm => ?_,fun q o' hq => ?_,h.memB,?_,?_,?_,?_,?_,?_,?_⟩,⟨hx,rfl⟩,by rw [hE];simp⟩
 ·rw [h4] at hm
  obtain ⟨x,e1,e2⟩:=h.memo c v hm
  exact ⟨x,aF hx _ _ e1,aF hx _ _ e2⟩
 ·obtain ⟨m1,m2⟩:=h.mem q o' hq
  have hlt:q<w.heap.size:=(Array.getElem?_eq_some_iff.1 m1).1
  refine ⟨by rw [bA,if_neg (by omega)];exact m1,fun j c p hc hoc hp => ?_⟩
  rw [hg] at hc;rw [hE] at hp
  by_cases hj:j=id
  ·rw [if_pos hj] at hp;cases hp;simp only;omega
  ·rw [if_neg hj] at hc hp;exact m2 j c p hc hoc hp
 ·exact h.below.alloc h.below.size o
 ·intro j c hc
  rw [hg] at hc
  by_cases hj:j=id
  ·subst hj;rw [if_pos rfl] at hc;cases hc
   refine ⟨(w.heap.size,cap),by rw [hE];simp,?_,fun _=>h.below.size,fun hr => ?_⟩
   ·rw [bA];simpa using hb
   ·cases b<;>simp [ct,wY] at ho hr
  ·rw [if_neg hj] at hc
   obtain ⟨p,hp,hB,hO,hR⟩:=h.blk j c hc
   refine ⟨p,by rw [hE,if_neg hj];exact hp,?_,hO,hR⟩
   by_cases hs:p.1=w.heap.size
   ·-- nothing lies there yet
    have hno:w.heap[p.1]? = none:=Array.getElem?_eq_none (by omega)
    rw [hno] at hB
    cases c with
    | dead=>trivial
    | cells l e=>obtain ⟨vs,fz,_,e2,_⟩:=hB;cases e2
    | row l e=>obtain ⟨vs,r,fz,_,e2,_⟩:=hB;cases e2
    | ro l=>obtain ⟨vs,r,e,fz,_,e2⟩:=hB;cases e2
    | map es c=>obtain ⟨ms,_,e2⟩:=hB;cases e2
    | defd=>cases hB
    | loop st pe t n d=>obtain ⟨_,_,_,_,_,_,_,e2⟩:=hB;cases e2
   ·rw [bA,if_neg hs];exact fL hx hB
 ·intro j p hp
  rw [hg]
  by_cases hj:j=id
  ·rw [if_pos hj];exact ⟨b,rfl⟩
  ·rw [if_neg hj];rw [hE,if_neg hj] at hp;exact h.dom j p hp
 ·intro j p hp
  rw [hg]
  by_cases hj:j=id
  ·rw [if_pos hj];exact ⟨b,rfl⟩
  ·rw [if_neg hj];rw [hL,if_neg hj] at hp;exact h.domL j p hp
 ·intro j j' c c' p p' hc hc' hoc hoc' hp hp' he
  rw [hg] at hc hc';rw [hE] at hp hp'
  have lt:∀k d q,s.heap.get k=some d->ct d=true->V.E k=some q->q.1≠w.heap.size:=by
   intro k d q hk hd hq e
   obtain ⟨q',hq',hB,_,_⟩:=h.blk k d hk
   rw [hq] at hq';cases hq'
   have hno:w.heap[q.1]? = none:=Array.getElem?_eq_none (by omega)
   rw [hno] at hB
   cases d with
   | dead=>simp [ct] at hd
   | cells l e=>obtain ⟨vs,fz,_,e2,_⟩:=hB;cases e2
   | row l e=>obtain ⟨vs,r,fz,_,e2,_⟩:=hB;cases e2
   | ro l=>simp [ct] at hd
   | map es c=>obtain ⟨ms,_,e2⟩:=hB;cases e2
   | defd=>cases hB
   | loop st pe t n d=>obtain ⟨_,_,_,_,_,_,_,e2⟩:=hB;cases e2
  by_cases hj:j=id
  ·by_cases hj':j'=id
   ·rw [hj,hj']
   ·rw [if_pos hj] at hp;rw [if_neg hj'] at hp' hc'
    cases hp
    exact absurd he.symm (lt j' c' p' hc' hoc' hp')
  ·by_cases hj':j'=id
   ·rw [if_neg hj] at hp hc;rw [if_pos hj'] at hp'
    cases hp'
    exact absurd he (lt j c p hc hoc hp)
   ·rw [if_neg hj] at hp hc;rw [if_neg hj'] at hp' hc'
    exact h.inj j j' c c' p p' hc hc' hoc hoc' hp hp' he
 ·intro g p hp
  rw [hE] at hp
  rw [if_neg (by omega)] at hp
  exact h.glob g p hp
 ·rw [show s'.own=s.own by rw [h4]]
  refine h.own.keep hx.up (fun q o' hq hqo hm ha => ?_)
  have hlt:q<w.heap.size:=(Array.getElem?_eq_some_iff.1 hqo).1
  refine ⟨hm,by rw [bA,if_neg (by omega)];exact hqo,fun j c r hc hoc hr' => ?_⟩
  rw [hg] at hc;rw [hE] at hr'
  by_cases hj:j=id
  ·rw [if_pos hj] at hr';cases hr';simp only;omega
  ·rw [if_neg hj] at hc hr';exact ha j c r hc hoc hr'
theorem av.turn {P:Program} {V:az} {s s':S} {B w w':World} {b b':ef} {id:Nat} {p:Nat×Nat} (h:av P V s B w) (hid:id<eY) (hs:s'={ s with heap:=Tr.set 64 s.heap id b',next:=s'.next })
  (hb:s.heap.get id=some b) (ho:ct b=true) (hr:wY b'=false) (hp:V.E id=some p) (hw:∀k,k≠p.1->w'.heap[k]? = w.heap[k]?) (hsz:w'.heap.size=w.heap.size)
  (hos:w'.os=w.os) (htp:w'.tape=w.tape) (hou:w'.output=w.output) (hB:ni P V b' id p w'.heap[p.1]?):av P V s' B w':=by
 have hg:∀j,s'.heap.get j=if j=id then some b' else s.heap.get j:=fun j=>by rw [hs];exact Tr.get_set64 _ _ _ _ hid
 obtain ⟨p0,hp0,_,hO,_⟩:=h.blk id b hb
 rw [hp] at hp0;cases hp0
 refine ⟨by rw [hs];exact h.know,by rw [hs];exact h.lens,by rw [hs];exact h.memo,fun q o' hq => ?_,h.memB,?_,?_,?_,?_,?_,h.glob,?_⟩
 ·obtain ⟨m1,m2⟩:=h.mem q o' hq
  refine ⟨by rw [hw q (fun e=>m2 id b p hb ho hp e.symm)];exact m1,fun j c r hc hoc hr' => ?_⟩
  rw [hg] at hc
  by_cases hj:j=id
  ·subst hj;rw [hp] at hr';cases hr';exact m2 j b p hb ho hp
  ·rw [if_neg hj] at hc;exact m2 j c r hc hoc hr'
 ·exact h.below.trans ⟨hos,htp,hou,by omega,fun k hk=>hw k (by have:=hO ho;omega)⟩
 ·intro j c hc
  rw [hg] at hc
  by_cases hj:j=id
  ·subst hj;rw [if_pos rfl] at hc;cases hc
   exact ⟨p,hp,hB,fun _=>hO ho,fun e=>by rw [hr] at e;cases e⟩
  ·rw [if_neg hj] at hc
   obtain ⟨q,hq,hBq,hOq,hRq⟩:=h.blk j c hc
   refine ⟨q,hq,?_,hOq,hRq⟩
   by_cases hd:ct c=true
   ·rw [hw q.1 (fun e=>hj (h.inj j id c b q p hc hb hd ho hq hp e))];exact hBq
   ·cases c with
    | dead=>trivial
    | ro l =>
     have h2:=hO ho
     have hne:q.1≠p.1:=by
      rcases hRq rfl with h1 | ⟨o,h1⟩
      ·omega
      ·exact fun e=>(h.mem q.1 o h1).2 id b p hb ho hp e.symm
     rw [hw q.1 hne];exact hBq
    | _=>simp [ct] at hd
 ·intro j q hq
  rw [hg]
  by_cases hj:j=id
  ·rw [if_pos hj];exact ⟨b',rfl⟩
  ·rw [if_neg hj];exact h.dom j q hq
 ·intro j q hq
  rw [hg]
  by_cases hj:j=id
  ·rw [if_pos hj];exact ⟨b',rfl⟩
  ·rw [if_neg hj];exact h.domL j q hq
 ·intro j j' c c' q q' hc hc' hoc hoc' hq hq' he
  rw [hg] at hc hc'
  by_cases hj:j=id
  ·subst hj
   by_cases hj':j'=j
   ·exact hj'.symm
   ·rw [if_neg hj'] at hc'
    exact h.inj j j' b c' q q' hb hc' ho hoc' hq hq' he
  ·rw [if_neg hj] at hc
   by_cases hj':j'=id
   ·subst hj';exact h.inj j j' c b q q' hc hb hoc ho hq hq' he
   ·rw [if_neg hj'] at hc';exact h.inj j j' c c' q q' hc hc' hoc hoc' hq hq' he
 ·rw [show s'.own=s.own by rw [hs]]
  refine h.own.keep (dr.refl _) (fun q o' hq hqo hm ha => ?_)
  refine ⟨hm,by rw [hw q (fun e=>ha id b p hb ho hp e.symm)];exact hqo,fun j c r hc hoc hr' => ?_⟩
  rw [hg] at hc
  by_cases hj:j=id
  ·subst hj;rw [hp] at hr';cases hr';exact ha j b p hb ho hp
  ·rw [if_neg hj] at hc;exact ha j c r hc hoc hr'
theorem av.rename {P:Program} {V:az} {s s1 s':S} {B w w':World} {b b':ef} {id id':Nat} {p:Nat×Nat} {cap:Nat} (h:av P V s B w) (hid:id<eY)
  (hb:s.heap.get id=some b) (ho:ct b=true) (hp:V.E id=some p) (h1:s1={ s with heap:=Tr.set 64 s.heap id .dead,next:=s1.next }) (hn:iD s1 b'=some (id',s')) (ho':ct b'=true)
  (hw:∀k,k≠p.1->w'.heap[k]? = w.heap[k]?) (hsz:w'.heap.size=w.heap.size) (hos:w'.os=w.os) (htp:w'.tape=w.tape) (hou:w'.output=w.output)
  (hB:ni P (V.bind id' (p.1,cap) none) b' id' (p.1,cap) w'.heap[p.1]?) :
  av P (V.bind id' (p.1,cap) none) s' B w'/\dM V (V.bind id' (p.1,cap) none)/\(V.bind id' (p.1,cap) none).E id'=some (p.1,cap):=by
 have hr1:av P V s1 B w':=h.turn (b' := .dead) hid h1 hb ho rfl hp hw hsz hos htp hou trivial
 obtain ⟨h0,hi,h2,h3,h4⟩:=gN hn
 have hx:=hr1.ext h2 (p.1,cap) none
 have hg:∀j,s'.heap.get j=if j=id' then some b' else s1.heap.get j:=fun j=>by rw [h3];exact Tr.get_set64 _ _ _ _ hi
 have hg1:∀j,s1.heap.get j=if j=id then some .dead else s.heap.get j:=fun j=>by rw [h1];exact Tr.get_set64 _ _ _ _ hid
 have hE:∀j,(V.bind id' (p.1,cap) none).E j=if j=id' then some (p.1,cap) else V.E j:=fun j=>rfl
 have hL:∀j,(V.bind id' (p.1,cap) none).L j=V.L j:=fun j=>by show (if j=id' then Dy none (V.L j) else V.L j)=V.L j;split<;>rfl
 obtain ⟨p0,hp0,_,hO,_⟩:=h.blk id b hb
 rw [hp] at hp0;cases hp0
 refine ⟨⟨by rw [h4];exact hr1.know,by rw [h4];exact hr1.lens,fun c v hm => ?_,fun q o' hq => ?_,hr1.memB,hr1.below,?_,?_,?_,?_,?_,?_⟩,⟨hx,rfl⟩,by rw [hE];simp⟩
 ·rw [h4] at hm
  obtain ⟨x,e1,e2⟩:=hr1.memo c v hm
  exact ⟨x,aF hx _ _ e1,aF hx _ _ e2⟩
 ·obtain ⟨m1,m2⟩:=hr1.mem q o' hq
  refine ⟨m1,fun j c r hc hoc hr' => ?_⟩
  rw [hg] at hc;rw [hE] at hr'
  by_cases hj:j=id'
  ·rw [if_pos hj] at hr';cases hr';simp only;exact (h.mem q o' hq).2 id b p hb ho hp
  ·rw [if_neg hj] at hc hr';exact m2 j c r hc hoc hr'
 ·intro j c hc
  rw [hg] at hc
  by_cases hj:j=id'
  ·subst hj;rw [if_pos rfl] at hc;cases hc
   exact ⟨(p.1,cap),by rw [hE];simp,hB,fun _=>hO ho,fun e=>by cases b'<;>simp [ct,wY] at ho' e⟩
  ·rw [if_neg hj] at hc
   obtain ⟨q,hq,hBq,hOq,hRq⟩:=hr1.blk j c hc
   exact ⟨q,by rw [hE,if_neg hj];exact hq,fL hx hBq,hOq,hRq⟩
 ·intro j q hq
  rw [hg]
  by_cases hj:j=id'
  ·rw [if_pos hj];exact ⟨b',rfl⟩
  ·rw [if_neg hj];rw [hE,if_neg hj] at hq;exact hr1.dom j q hq
 ·intro j q hq
  rw [hg]
  by_cases hj:j=id'
  ·rw [if_pos hj];exact ⟨b',rfl⟩
  ·rw [if_neg hj];rw [hL] at hq;exact hr1.domL j q hq
 ·intro j j' c c' q q' hc hc' hoc hoc' hq hq' he
  rw [hg] at hc hc';rw [hE] at hq hq'
  have no:∀k d r,k≠id'->s1.heap.get k=some d->ct d=true->V.E k=some r->r.1≠p.1:=by
   intro k d r _ hk hd hr e
   rw [hg1] at hk
   by_cases hkid:k=id
   ·rw [if_pos hkid] at hk;cases hk;simp [ct] at hd
   ·rw [if_neg hkid] at hk;exact hkid (h.inj k id d b r p hk hb hd ho hr hp e)
  by_cases hj:j=id'
  ·by_cases hj':j'=id'
   ·rw [hj,hj']
   ·rw [if_pos hj] at hq;rw [if_neg hj'] at hq' hc'
    cases hq
    exact absurd he.symm (no j' c' q' hj' hc' hoc' hq')
  ·by_cases hj':j'=id'
   ·rw [if_neg hj] at hq hc;rw [if_pos hj'] at hq'
    cases hq'
    exact absurd he (no j c q hj hc hoc hq)
   ·rw [if_neg hj] at hq hc;rw [if_neg hj'] at hq' hc'
    exact hr1.inj j j' c c' q q' hc hc' hoc hoc' hq hq' he
 ·intro g q hq
  rw [hE,if_neg (by omega)] at hq
  exact h.glob g q hq
 ·rw [show s'.own=s.own by rw [h4];show s1.own=s.own;rw [h1]]
  refine h.own.keep hx.up (fun q o' hq hqo hm ha => ?_)
  refine ⟨hm,by rw [hw q (fun e=>ha id b p hb ho hp e.symm)];exact hqo,fun j c r hc hoc hr' => ?_⟩
  rw [hg] at hc;rw [hE] at hr'
  by_cases hj:j=id'
  ·rw [if_pos hj] at hr';cases hr';exact ha id b p hb ho hp
  ·rw [if_neg hj] at hc hr'
   rw [hg1] at hc
   by_cases hj2:j=id
   ·rw [if_pos hj2] at hc;cases hc;simp [ct] at hoc
   ·rw [if_neg hj2] at hc;exact ha j c r hc hoc hr'
theorem av.drew {P:Program} {V:az} {s:S} {B w:World} (h:av P V s B w) (n:Nat):av P V s B { w with drawn:=n }:=
 ⟨h.know,h.lens,h.memo,h.mem,h.memB,⟨h.below.os,h.below.tape,h.below.output,h.below.size,h.below.block⟩,h.blk,h.dom,h.domL,h.inj,h.glob,⟨h.own.nd,h.own.ok,h.own.dj⟩⟩
theorem av.next {P:Program} {V:az} {s:S} {B w:World} (h:av P V s B w) {s':S} (hs:s'={ s with next:=s'.next }):av P V s' B w:=by
 rw [hs];exact ⟨h.know,h.lens,h.memo,h.mem,h.memB,h.below,h.blk,h.dom,h.domL,h.inj,h.glob,h.own⟩
end
section
open Go.RowKit
structure wA (P:Program) (t:TypeId) (ti:TI):Prop where
 desc:P.underlying t=some ti.desc
 info:∃i,P.info? t=some i/\i.size=ti.size/\i.bytes=ti.bytes/\∀z,ti.zero=some z->∃v,i.zero=some v/\gK v=some z
structure FC (P:Program) (f:FuncId) (fi:FI):Prop where
 fn:∃fn,P.funcs[f]? = some fn/\fn.body=some fi.code/\fn.ntmps=fi.ntmps/\fn.results.toList=fi.results
 call:∀args w,(callFunc f args).run P w = .ok (.enter f args) w
def Jf:List (FuncId×Bool×TypeId)->FuncId->Option (Bool×TypeId)
 | [],_=>none
 | (f',k,e)::l,f=>bif Nat.beq f' f then some (k,e) else Jf l f
def FB (P : Program) (f : FuncId) (ins : Bool) (e : TypeId) : Prop :=
 ∀ (w : World) (b n c i : Nat) (l rest vs : List Value) (fz : Nat × Nat) (ie : TypeInfo) (X : Value),
  P.info? e=some ie->0<ie.size->0<ie.bytes->w.heap[b]? = some (.cells (l++rest).toArray e fz)->ui fz (l.length+rest.length)->
  l.length+rest.length=c*ie.size->l.length=n*ie.size->1<=n->n<=c->c<=9223372036854775807->
  (∀x∈l,x.oneCell'=true)->(∀x∈vs,x.oneCell'=true)->
  (if ins = true then 2 * (n + 1) * ie.bytes <= 281474976710656 /\ i <= n /\ vs.length = ie.size /\ ∃ (vb vo vc : Nat) (cs : Array Value) (tv : TypeId) (fv : Nat × Nat), vb ≠ b /\ X = .slice (some ⟨vb, vo, none⟩) 1 vc /\
    w.heap[vb]? = some (.cells cs tv fv)/\ui fv (cs.size+1)/\∀(j:Nat) (v:Value),vs[j]? = some v->cs[vo+j]? = some v
   else i<n/\X = .int .i64 ((i+1:Nat):Int)/\vs=[])->
  Calls P f #[.slice (some ⟨b,0,none⟩) n c,.int .i64 (i:Int),X] w fun r w'=>
   ∃(b' c':Nat) (l' rest':List Value) (fz':Nat×Nat),r = .returned (.slice (some ⟨b',0,none⟩) (if ins=true then n+1 else n-1) c')/\
    l'=l.take (i*ie.size)++(vs++l.drop ((if ins=true then i else i+1)*ie.size))/\
    w'.heap[b']? = some (.cells (l'++rest').toArray e fz')/\ui fz' (l'.length+rest'.length)/\l'.length+rest'.length=c'*ie.size/\
    (if ins=true then n+1 else n-1)<=c'/\c'<=9223372036854775807/\(b'=b\/w.heap.size<=b')/\
    w.heap.size<=w'.heap.size/\w'.os=w.os/\w'.tape=w.tape/\w'.output=w.output/\∀k,k<w.heap.size->k≠b->w'.heap[k]? = w.heap[k]?
structure cv (P:Program) (g:G):Prop where
 ty:∀t ti,g.ty.get t=some ti->wA P t ti
 fn:∀f fi,g.fn.get f=some fi->FC P f fi
 eqs:∀t,kS g.eqs t=true->P.stoodInHeld t=false/\P.eqGuardType P.depth t=false
 mixed:P.follows .mixedOrders=true
 trs:∀f k e,Jf g.trs f=some (k,e)->FB P f k e
section
variable {P:Program} {w:World}
theorem aB {t:TypeId} {ti:TI} (h:wA P t ti):(sizeOf t).run P w = .ok ti.size w:=by
 obtain ⟨i,h1,h2,_⟩:=h.info
 simp [sizeOf,typeInfo,h1,h2]
theorem vd {t:TypeId} {ti:TI} (h:wA P t ti):∃i,(typeInfo t).run P w = .ok i w/\i.bytes=ti.bytes:=by
 obtain ⟨i,h1,_,h3,_⟩:=h.info
 exact ⟨i,by simp [typeInfo,h1],h3⟩
theorem dI {t:TypeId} {ti:TI} (h:wA P t ti):(isAgg t).run P w = .ok (fa ti.desc) w:=by
 simp only [isAgg,Sem.run_bind,run_underlying h.desc,Result.andThen_ok]
 cases ti.desc<;>simp [fa]
end
structure aN (V:az) (a:A) (A:Act):Prop where
 tm:oc V a.tmps a.n A.tmps
 marks:∃ps:List (Nat×Nat),ps.length=a.marks.length/\(∀(i d:Nat) (p:Nat×Nat),a.marks[i]? = some d->ps[i]? = some p->V.E d=some p)/\A.defers=ps.map fun p=>{ target := .collected p.1,args := #[] }
theorem aN.mono {V V':az} {a:A} {A:Act} (h:aN V a A) (k:eU V V'):aN V' a A:=by
 obtain ⟨ps,h1,h2,h3⟩:=h.marks
 exact ⟨jM k h.tm,ps,h1,fun i d p hd hp=>k.E _ _ (h2 i d p hd hp),h3⟩
theorem aN.get {V:az} {a:A} {A:Act} (h:aN V a A) {t:Nat} {v:AV} (hv:a.tmps.get t=some v):v.conc V=some (A.eval (.tmp t)):=h.tm.2 t v hv
theorem aN.put {V:az} {a a':A} {A:Act} {d:Option Tmp} {v:AV} {x:Value} (h:aN V a A) (hp:a.put d v=some a') (hv:v.conc V=some x):aN V a' (A.put d x):=by
 cases d with
 | none=>simp [Vc.A.put] at hp;subst hp;exact h
 | some d =>
  simp only [Vc.A.put] at hp
  cases c:(Nat.blt d a.n&&Nat.blt d eY) with
  | false=>rw [c] at hp;cases hp
  | true =>
   rw [c] at hp;simp only [cond_true,Option.some.injEq] at hp;subst hp
   simp at c
   refine ⟨⟨by simp [Act.put,h.tm.1],fun k u hu => ?_⟩,h.marks⟩
   simp only [Act.put]
   rw [Tr.get_set64 _ _ _ _ c.2] at hu
   have hsz:=h.tm.1
   by_cases hk:k=d
   ·subst hk
    simp only [if_true,Option.some.injEq] at hu
    subst hu
    have:(A.tmps.setIfInBounds k x).getD k undef=x:=by simp [hsz,c.1]
    rw [this];exact hv
   ·rw [if_neg hk] at hu
    have:(A.tmps.setIfInBounds d x).getD k undef=A.tmps.getD k undef:=by
     simp [Array.getElem?_setIfInBounds_ne (fun e=>hk e.symm)]
    rw [this];exact h.tm.2 k u hu
def jC (V:az) (s:S):Prop:=∀g b,s.heap.get (2*g+1)=some b->∃p,V.E (2*g+1)=some p/\p.1=g
theorem av.globOk {P:Program} {V:az} {s:S} {B w:World} (h:av P V s B w):jC V s:=fun g b hb=>by
 obtain ⟨p,hp,_⟩:=h.blk _ b hb
 exact ⟨p,hp,h.glob g p hp⟩
theorem au {V:az} {a:A} {A:Act} {s:S} {o:Operand} {v:AV} (hA:aN V a A) (hg:jC V s) (h:ei a s o=some v):v.conc V=some (A.eval o):=by
 cases o with
 | tmp t=>exact hA.get h
 | const c=>exact Bk V h
 | global g =>
  simp only [ei] at h
  split at h
  ·rename_i b hb;cases h
   obtain ⟨p,hp,rfl⟩:=hg g b hb
   simp only [AV.conc,hp,Act.eval]
  ·cases h
 | func f=>simp only [ei] at h;cases h;exact AW (cA V) (cA V)
theorem iu {V:az} {a:A} {A:Act} {s:S} (hA:aN V a A) (hg:jC V s):∀{l:List Operand} {vs:List AV},Fz a s l=some vs->concL V vs=some (l.map A.eval):=by
 intro l
 induction l with
 | nil=>intro vs h;cases h;exact cA V
 | cons x xs ih=>
  intro vs h
  simp only [Fz] at h
  split at h
  ·rename_i v r hv hr;cases h;exact ax (au hA hg hv) (ih hr)
  ·cases h
theorem jb {P:Program} {g:G} {V:az} (hty:∀t ti,g.ty.get t=some ti->wA P t ti) {t:TypeId} {cs:List AV} {off:Nat} {v:AV} {vs:List Value} (h:iw g t cs off=some v) (hc:concL V cs=some vs) :
  ∃x,v.conc V=some x/\∀w,(part t vs.toArray off).run P w = .ok x w:=by
 simp only [iw] at h
 split at h
 ·rename_i ti hti
  have hT:=hty t ti hti
  cases c:fa ti.desc with
  | true =>
   rw [c] at h;simp only [cond_true] at h
   split at h
   ·rename_i l hl;cases h
    have key:concL V l=some ((vs.drop off).take ti.size):=by
     rcases qD hc hl with ⟨h1,_,_⟩ | ⟨h1,h2,h3⟩
     ·exact h1
     ·rw [h1,h2];simp
    refine ⟨_,gd key,fun w => ?_⟩
    simp only [part,Sem.run_bind,dI hT,Result.andThen_ok,c,if_true,aB hT,Sem.run_pure]
    congr 2
    apply Array.ext'
    simp
   ·cases h
  | false=>
   rw [c] at h;simp only [cond_false,cJ] at h
   obtain ⟨x,hx,hv⟩:=iK hc h
   refine ⟨x,hv,fun w => ?_⟩
   simp only [part,Sem.run_bind,dI hT,Result.andThen_ok,c,Bool.false_eq_true,if_false]
   rw [List.getElem?_toArray,hx];rfl
 ·cases h
theorem gb (l:List UInt8):(⟨l.toArray⟩:ByteArray).toList=l:=by rw [ByteArray.toList_eq]
theorem vE {P : Program} {g : G} {K : ew} {V : az} (hG : cv P g) (hK : cx K V.σ) : ∀ (d : Nat) (t : TypeId) (x y : AV) (b : Bool) (X Y : Value), vD g K d t x y = some b -> x.conc V = some X -> y.conc V = some Y ->
  ∀d',d<=d'->∀w,(Op.equalIn d' t X Y).run P w = .ok b w:=by
 intro d
 induction d with
 | zero=>intro t x y b X Y h;simp [vD] at h
 | succ d ih =>
  intro t x y b X Y h hX hY d' hd w
  obtain ⟨e,rfl⟩:∃e,d'=e+1:=⟨d'-1,by omega⟩
  simp only [vD] at h
  split at h
  ·cases h
  ·rename_i ti hti
   have hT:=hG.ty t ti hti
   have hu:=hT.desc
   split at h
   ·rename_i a c hd1;cases h;rw [hd1] at hu
    simp only [AV.conc] at hX hY;cases hX;cases hY
    exact run_equalIn_bool w e t a c hu
   ·rename_i k0 k a k' c hd1
    rw [hd1] at hu
    cases ck:de k k' with
    | false=>rw [ck] at h;cases h
    | true=>
     rw [ck] at h;simp only [cond_true] at h
     have:=cF ck;subst this
     obtain ⟨x1,hx1,rfl⟩:=aC hX
     obtain ⟨y1,hy1,rfl⟩:=aC hY
     rw [run_equalIn_int w e t k k0 _ _ hu,<-vC hK _ _ _ h hx1 hy1]
     congr 1
   ·rename_i a c hd1;cases h;rw [hd1] at hu
    simp only [AV.conc] at hX hY;cases hX;cases hY
    rw [run_equalIn_string w e t _ _ hu,gb,gb,iW]
    congr 1
    by_cases hh:a=c<;>simp [hh]
   ·rename_i e' hd1;cases h;rw [hd1] at hu
    simp only [AV.conc] at hX hY;cases hX;cases hY
    simp [Op.equalIn,run_underlying hu]
   ·rename_i e' i o hd1;cases h;rw [hd1] at hu
    simp only [AV.conc] at hX;cases hX
    obtain ⟨p,_,rfl⟩:=dT hY
    simp [Op.equalIn,run_underlying hu]
   ·rename_i e' i o hd1;cases h;rw [hd1] at hu
    simp only [AV.conc] at hY;cases hY
    obtain ⟨p,_,rfl⟩:=dT hX
    simp [Op.equalIn,run_underlying hu]
   ·rename_i e' hd1;cases h;rw [hd1] at hu
    simp only [AV.conc] at hX hY;cases hX;cases hY
    simp [Op.equalIn,run_underlying hu]
   ·rename_i e' i o n c sk hd1;cases h;rw [hd1] at hu
    simp only [AV.conc] at hX;cases hX
    obtain ⟨p,_,rfl⟩:=aT hY
    simp [Op.equalIn,run_underlying hu]
   ·rename_i e' i o n c sk hd1;cases h;rw [hd1] at hu
    simp only [AV.conc] at hY;cases hY
    obtain ⟨p,_,rfl⟩:=aT hX
    simp [Op.equalIn,run_underlying hu]
   ·rename_i k' e' hd1;cases h;rw [hd1] at hu
    simp only [AV.conc] at hX hY;cases hX;cases hY
    simp [Op.equalIn,run_underlying hu]
   ·rename_i k' e' i hd1;cases h;rw [hd1] at hu
    simp only [AV.conc] at hX;cases hX
    obtain ⟨p,_,rfl⟩:=ib hY
    simp [Op.equalIn,run_underlying hu]
   ·rename_i k' e' i hd1;cases h;rw [hd1] at hu
    simp only [AV.conc] at hY;cases hY
    obtain ⟨p,_,rfl⟩:=ib hX
    simp [Op.equalIn,run_underlying hu]
   ·rename_i hd1;cases h;rw [hd1] at hu
    simp only [AV.conc] at hX hY;cases hX;cases hY
    simp [Op.equalIn,run_underlying hu]
   ·rename_i hd1;cases h;rw [hd1] at hu
    simp only [AV.conc] at hX;cases hX
    obtain ⟨_,_,_,_,rfl⟩:=fQ hY
    simp [Op.equalIn,run_underlying hu]
   ·rename_i hd1;cases h;rw [hd1] at hu
    simp only [AV.conc] at hY;cases hY
    obtain ⟨_,_,_,_,rfl⟩:=fQ hX
    simp [Op.equalIn,run_underlying hu]
   ·rename_i fields xs ys hd1
    rw [hd1] at hu
    cases cm:kS g.eqs t with
    | false=>rw [cm] at h;cases h
    | true =>
     rw [cm] at h;simp only [cond_true] at h
     obtain ⟨us,rfl,hus⟩:=cg hX
     obtain ⟨vs,rfl,hvs⟩:=cg hY
     have hf:P.fieldsOf t=fields:=by simp [Program.fieldsOf,hu]
     rw [run_equalIn_struct w e t _ _ (by rw [hf];exact hu) (hG.eqs t cm).1,hf]
     have key : ∀ (fs : List Field), eqFields (vD g K d) g xs ys fs = some b -> ∀ w, (Op.eqFields e us.toArray vs.toArray fs).run P w = .ok b w := by
      intro fs
      induction fs with
      | nil=>intro h w;simp [eqFields] at h;subst h;rfl
      | cons f fs ihf =>
       intro h w
       simp only [eqFields] at h
       cases cn:(f.name=="_") with
       | true=>rw [cn] at h;cases h
       | false =>
        rw [cn] at h;simp only [cond_false] at h
        have hne:f.name≠"_" := by intro e;rw [e] at cn;simp at cn
        split at h
        ·rename_i a c ha hc
         obtain ⟨A',hA',rA⟩:=jb hG.ty ha hus
         obtain ⟨C',hC',rC⟩:=jb hG.ty hc hvs
         simp only [Op.eqFields,if_pos hne,Sem.run_bind,rA,rC,Result.andThen_ok]
         split at h
         ·rename_i hr
          rw [ih f.type a c true A' C' hr hA' hC' e (by omega) w]
          simp only [Result.andThen_ok,Bool.not_true,Bool.false_eq_true,if_false]
          exact ihf h w
         ·rename_i hr
          cases h
          rw [ih f.type a c false A' C' hr hA' hC' e (by omega) w]
          simp
         ·cases h
        ·cases h
     exact key _ h w
   ·cases h
end
section
open Go.RowKit
section
variable {P:Program} {g:G} {V:az} {K:ew}
theorem cD (op:BinOp) (t:TypeId) (x y:Operand) (a b:Value) (w:World) (h1:∀cs ds,a = .agg cs->b = .agg ds->False) (h2:a = .nilIface->b = .nilIface->False):(eqGuard op t x y a b).run P w = .ok () w:=by
 have key:∀(X Y:Sem Unit),(match a,b with
   | .nilIface,.nilIface=>X
   | .agg _,.agg _=>Y
   | _,_=>pure ()).run P w = .ok () w:=by
  intro X Y
  split
  ·exact (h2 rfl rfl).elim
  ·exact (h1 _ _ rfl rfl).elim
  ·rfl
 cases op<;>first | rfl | exact key _ _
theorem sT (hK:cx K V.σ) (op:BinOp) (t:TypeId) (k:IntKind) (x y:IE) (v:AV) (h:wX K op k x y=some v) {p q:Int} (hp:x.val V.σ=some p) (hq:y.val V.σ=some q) :
  ∃R,v.conc V=some R/\∀w,(binOp op t (.int k p) (.int k q)).run P w = .ok R w:=by
 cases op<;>simp only [wX] at h<;>try (cases h;done)
 ·-- add
  split at h
  ·rename_i e he;cases h
   refine ⟨_,dc (ue hK _ _ _ he (dR hp hq)),fun w => ?_⟩
   simp [binOp,Op.intArith]
  ·cases h
 ·split at h
  ·rename_i e he;cases h
   refine ⟨_,dc (ue hK _ _ _ he (o9 hp hq)),fun w => ?_⟩
   simp [binOp,Op.intArith]
  ·cases h
 ·split at h
  ·rename_i a b ha hb;cases h
   have ea:=bL ha;have eb:=bL hb;subst ea;subst eb
   simp only [IE.val,Option.some.injEq] at hp hq;subst hp;subst hq
   exact ⟨_,dc rfl,fun w=>by simp [binOp,Op.intArith,IE.val]⟩
  ·cases h
 ·split at h
  ·rename_i a b ha hb
   cases c:Er b 0 with
   | true=>rw [c] at h;cases h
   | false=>
    rw [c] at h;cases h
    have ea:=bL ha;have eb:=bL hb;subst ea;subst eb
    simp only [IE.val,Option.some.injEq] at hp hq;subst hp;subst hq
    refine ⟨_,rfl,fun w => ?_⟩
    rw [nJ] at c
    have hb0:b≠0:=by simpa using c
    simp [binOp,Op.intDiv,IE.val,hb0]
  ·cases h
 ·split at h
  ·rename_i a b ha hb
   cases c:Er b 0 with
   | true=>rw [c] at h;cases h
   | false=>
    rw [c] at h;cases h
    have ea:=bL ha;have eb:=bL hb;subst ea;subst eb
    simp only [IE.val,Option.some.injEq] at hp hq;subst hp;subst hq
    refine ⟨_,rfl,fun w => ?_⟩
    rw [nJ] at c
    have hb0:b≠0:=by simpa using c
    simp [binOp,Op.intDiv,IE.val,hb0]
  ·cases h
 all_goals skip
 ·-- and
  split at h
  ·rename_i a b ha hb;cases h
   have ea:=bL ha;have eb:=bL hb;subst ea;subst eb
   simp only [IE.val,Option.some.injEq] at hp hq;subst hp;subst hq
   refine ⟨_,rfl,fun w => ?_⟩
   simp only [binOp,ne_eq,not_true,if_false,Op.intBits,IE.val,Sem.run_pure]
   rfl
  ·cases h
 ·split at h
  ·rename_i a b ha hb;cases h
   have ea:=bL ha;have eb:=bL hb;subst ea;subst eb
   simp only [IE.val,Option.some.injEq] at hp hq;subst hp;subst hq
   refine ⟨_,rfl,fun w => ?_⟩
   simp only [binOp,ne_eq,not_true,if_false,Op.intBits,IE.val,Sem.run_pure]
   rfl
  ·cases h
 ·split at h
  ·rename_i a b ha hb;cases h
   have ea:=bL ha;have eb:=bL hb;subst ea;subst eb
   simp only [IE.val,Option.some.injEq] at hp hq;subst hp;subst hq
   refine ⟨_,rfl,fun w => ?_⟩
   simp only [binOp,ne_eq,not_true,if_false,Op.intBits,IE.val,Sem.run_pure]
   rfl
  ·cases h
 ·split at h
  ·rename_i a b ha hb;cases h
   have ea:=bL ha;have eb:=bL hb;subst ea;subst eb
   simp only [IE.val,Option.some.injEq] at hp hq;subst hp;subst hq
   refine ⟨_,rfl,fun w => ?_⟩
   simp only [binOp,ne_eq,not_true,if_false,Op.intBits,IE.val,Sem.run_pure]
   rw [BitVec.toNat_and,BitVec.toNat_not]
   rfl
  ·cases h
 all_goals
  (split at h
   ·rename_i b hb;cases h
    refine ⟨_,rfl,fun w => ?_⟩
    first
     | (first | (have:=i5 hK _ _ _ hb hp hq;cases b<;>simp at this<;>simp [binOp,Op.intCmp]<;>omega) | (have:=i5 hK _ _ _ hb hq hp;cases b<;>simp at this<;>simp [binOp,Op.intCmp]<;>omega))
     | (have:=vC hK _ _ _ hb hp hq;cases b<;>simp at this<;>simp [binOp,Op.intCmp]<;>omega)
   ·cases h)
theorem tP (op:BinOp) (t:TypeId) (k k':IntKind) (x y:IE) (v:AV) (ho:op = .shl\/op = .shr) (h:rD op k x y=some v) {p q:Int} (hp:x.val V.σ=some p) (hq:y.val V.σ=some q) :
  ∃R,v.conc V=some R/\∀w,(binOp op t (.int k p) (.int k' q)).run P w = .ok R w:=by
 unfold rD at h
 split at h
 ·rename_i a b ha hb
  cases c:lf 0 b with
  | false=>rw [c] at h;cases h
  | true =>
   rw [c] at h;simp only [cond_true] at h
   rw [jG] at c
   have hb0:¬b<0:=by simp at c;omega
   have ea:=bL ha;have eb:=bL hb;subst ea;subst eb
   simp only [IE.val,Option.some.injEq] at hp hq;subst hp;subst hq
   rcases ho with rfl | rfl
   ·cases h
    refine ⟨_,rfl,fun w => ?_⟩
    simp [binOp,Op.shift,IE.val,hb0]
   ·cases h
    refine ⟨_,rfl,fun w => ?_⟩
    simp [binOp,Op.shift,IE.val,hb0]
 ·cases h
theorem Fl (op:BinOp) (t:TypeId) (a b:List UInt8) (v:AV) (h:Fk op a b=some v) :
  ∃R,v.conc V=some R/\∀w,(binOp op t (.string ⟨a.toArray⟩) (.string ⟨b.toArray⟩)).run P w = .ok R w:=by
 have e1:=gb a
 have e2:=gb b
 cases op<;>simp only [Fk] at h<;>try (cases h;done)
 ·cases c:Nat.ble (Nat.add (bF a) (bF b)) 9223372036854775807 with
  | false=>rw [c] at h;cases h
  | true =>
   rw [c] at h;cases h
   refine ⟨_,rfl,fun w => ?_⟩
   rw [aO,aO] at c
   have hc:a.length+b.length<=9223372036854775807:=by simpa using c
   have hs:¬((((⟨a.toArray⟩:ByteArray).size+(⟨b.toArray⟩:ByteArray).size:Nat):Int) > IntKind.i64.max):=by
    have s1:(⟨a.toArray⟩:ByteArray).size=a.length:=by simp [ByteArray.size]
    have s2:(⟨b.toArray⟩:ByteArray).size=b.length:=by simp [ByteArray.size]
    rw [s1,s2,IntKind.max_i64];omega
   simp only [binOp,Op.stringOp,Sem.run_ite,if_neg hs,Sem.run_pure]
   congr 2
 ·cases h
  refine ⟨_,rfl,fun w => ?_⟩
  have e3:(a==b)=decide (a=b):=by rw [Bool.eq_iff_iff];simp
  simp only [binOp,Op.stringOp,e1,e2,Sem.run_pure,iW,e3]
 ·cases h
  refine ⟨_,rfl,fun w => ?_⟩
  have e3:(a==b)=decide (a=b):=by rw [Bool.eq_iff_iff];simp
  simp only [binOp,Op.stringOp,e1,e2,Sem.run_pure,iW,e3]
def iv:Value->Bool
 | .bool _ | .pointer _ | .slice .. | .map _ | .func .. | .nilFunc | .agg _=>true
 | _=>false
theorem AF {d:Nat} {t:TypeId} {x y:AV} {b:Bool} {X Y:Value} (h:vD g K d t x y=some b) (hX:x.conc V=some X) (hY:y.conc V=some Y) (h1:∀k a k' c,x = .int k a->y = .int k' c->False) (h2:∀a c,x = .str a->y = .str c->False) :
  iv X=true/\iv Y=true/\(∀cs ds,X = .agg cs->Y = .agg ds->kS g.eqs t=true):=by
 cases d with
 | zero=>simp [vD] at h
 | succ d =>
  simp only [vD] at h
  split at h
  ·cases h
  ·split at h
   ·simp only [AV.conc] at hX hY;cases hX;cases hY;exact ⟨rfl,rfl,by simp⟩
   ·exact (h1 _ _ _ _ rfl rfl).elim
   ·exact (h2 _ _ rfl rfl).elim
   ·simp only [AV.conc] at hX hY;cases hX;cases hY;exact ⟨rfl,rfl,by simp⟩
   ·simp only [AV.conc] at hX;cases hX;obtain ⟨p,_,rfl⟩:=dT hY;exact ⟨rfl,rfl,by simp⟩
   ·simp only [AV.conc] at hY;cases hY;obtain ⟨p,_,rfl⟩:=dT hX;exact ⟨rfl,rfl,by simp⟩
   ·simp only [AV.conc] at hX hY;cases hX;cases hY;exact ⟨rfl,rfl,by simp⟩
   ·simp only [AV.conc] at hX;cases hX;obtain ⟨p,_,rfl⟩:=aT hY;exact ⟨rfl,rfl,by simp⟩
   ·simp only [AV.conc] at hY;cases hY;obtain ⟨p,_,rfl⟩:=aT hX;exact ⟨rfl,rfl,by simp⟩
   ·simp only [AV.conc] at hX hY;cases hX;cases hY;exact ⟨rfl,rfl,by simp⟩
   ·simp only [AV.conc] at hX;cases hX;obtain ⟨p,_,rfl⟩:=ib hY;exact ⟨rfl,rfl,by simp⟩
   ·simp only [AV.conc] at hY;cases hY;obtain ⟨p,_,rfl⟩:=ib hX;exact ⟨rfl,rfl,by simp⟩
   ·simp only [AV.conc] at hX hY;cases hX;cases hY;exact ⟨rfl,rfl,by simp⟩
   ·simp only [AV.conc] at hX;cases hX;obtain ⟨_,_,_,_,rfl⟩:=fQ hY;exact ⟨rfl,rfl,by simp⟩
   ·simp only [AV.conc] at hY;cases hY;obtain ⟨_,_,_,_,rfl⟩:=fQ hX;exact ⟨rfl,rfl,by simp⟩
   ·rename_i xs ys _
    cases cm:kS g.eqs t with
    | false=>rw [cm] at h;cases h
    | true=>
     obtain ⟨us,rfl,_⟩:=cg hX
     obtain ⟨vs,rfl,_⟩:=cg hY
     exact ⟨rfl,rfl,fun _ _ _ _=>rfl⟩
   ·cases h
theorem mq {X Y:Value} (h1:iv X=true) (h2:iv Y=true) (t:TypeId) (w:World) {b:Bool} (h:(Op.equalIn 10000 t X Y).run P w = .ok b w):(binOp .eql t X Y).run P w = .ok (.bool b) w:=by
 have e:binOp .eql t X Y=(do pure (.bool (<-Op.equal t X Y)):Sem Value):=by
  cases X<;>simp [iv] at h1<;>cases Y<;>first | rfl | (simp [iv] at h2)
 rw [e];simp only [Op.equal,Op.maxDepth,Sem.run_bind,h,Result.andThen_ok,Sem.run_pure]
theorem mr {X Y:Value} (h1:iv X=true) (h2:iv Y=true) (t:TypeId) (w:World) {b:Bool} (h:(Op.equalIn 10000 t X Y).run P w = .ok b w):(binOp .neq t X Y).run P w = .ok (.bool (!b)) w:=by
 have e:binOp .neq t X Y=(do pure (.bool (!(<-Op.equal t X Y))):Sem Value):=by
  cases X<;>simp [iv] at h1<;>cases Y<;>first | rfl | (simp [iv] at h2)
 rw [e];simp only [Op.equal,Op.maxDepth,Sem.run_bind,h,Result.andThen_ok,Sem.run_pure]
theorem gT (hG:cv P g) {X Y:Value} (op:BinOp) (t:TypeId) (xo yo:Operand) (h1:iv X=true) (h3:∀cs ds,X = .agg cs->Y = .agg ds->kS g.eqs t=true) (w:World):(eqGuard op t xo yo X Y).run P w = .ok () w:=by
 by_cases hc:∃cs ds,X = .agg cs/\Y = .agg ds
 ·obtain ⟨cs,ds,rfl,rfl⟩:=hc
  exact run_eqGuard_agg w op t xo yo cs ds (hG.eqs t (h3 _ _ rfl rfl)).2
 ·exact cD _ _ _ _ _ _ w (fun cs ds e1 e2=>hc ⟨cs,ds,e1,e2⟩) (fun e _=>by rw [e] at h1;simp [iv] at h1)
theorem F0 (hG:cv P g) (hK:cx K V.σ) {op:BinOp} {t:TypeId} {x y v:AV} {X Y:Value} (xo yo:Operand) (h:Iv g K op t x y=some v) (hX:x.conc V=some X) (hY:y.conc V=some Y) :
  ∃R,v.conc V=some R/\∀w,(do eqGuard op t xo yo X Y;binOp op t X Y:Sem Value).run P w = .ok R w:=by
 have sh:∀{R:Value},(∀w,(binOp op t X Y).run P w = .ok R w)->(∀w,(eqGuard op t xo yo X Y).run P w = .ok () w)->∀w,(do eqGuard op t xo yo X Y;binOp op t X Y:Sem Value).run P w = .ok R w:=by
  intro R h1 h2 w
  simp only [Sem.run_bind,h2,Result.andThen_ok,h1]
 unfold Iv at h
 split at h
 ·rename_i k a k' b
  obtain ⟨x1,hx1,rfl⟩:=aC hX
  obtain ⟨y1,hy1,rfl⟩:=aC hY
  obtain ⟨R,h1,h2⟩:=tP (P:=P) (V:=V) .shl t k k' a b v (.inl rfl) h hx1 hy1
  exact ⟨R,h1,sh h2 (fun w=>cD _ _ _ _ _ _ w (by simp) (by simp))⟩
 ·rename_i k a k' b
  obtain ⟨x1,hx1,rfl⟩:=aC hX
  obtain ⟨y1,hy1,rfl⟩:=aC hY
  obtain ⟨R,h1,h2⟩:=tP (P:=P) (V:=V) .shr t k k' a b v (.inr rfl) h hx1 hy1
  exact ⟨R,h1,sh h2 (fun w=>cD _ _ _ _ _ _ w (by simp) (by simp))⟩
 ·rename_i k a k' b _ _
  obtain ⟨x1,hx1,rfl⟩:=aC hX
  obtain ⟨y1,hy1,rfl⟩:=aC hY
  cases ck:de k k' with
  | false=>rw [ck] at h;cases h
  | true=>
   rw [ck] at h;simp only [cond_true] at h
   have:=cF ck;subst this
   obtain ⟨R,h1,h2⟩:=sT hK op t k a b v h hx1 hy1
   exact ⟨R,h1,sh h2 (fun w=>cD _ _ _ _ _ _ w (by simp) (by simp))⟩
 ·rename_i a b
  simp only [AV.conc] at hX hY;cases hX;cases hY
  obtain ⟨R,h1,h2⟩:=Fl (P:=P) (V:=V) op t a b v h
  exact ⟨R,h1,sh h2 (fun w=>cD _ _ _ _ _ _ w (by simp) (by simp))⟩
 ·rename_i n1 n2 n3 n4
  split at h
  ·rename_i b hb;cases h
   have hq:=vE hG hK 100 t x y b X Y hb hX hY 10000 (by omega)
   obtain ⟨p1,p2,p3⟩:=AF hb hX hY (by assumption) (by assumption)
   exact ⟨_,rfl,sh (fun w=>mq p1 p2 t w (hq w)) (fun w=>gT hG _ t xo yo p1 p3 w)⟩
  ·cases h
 ·split at h
  ·rename_i b hb;cases h
   have hq:=vE hG hK 100 t x y b X Y hb hX hY 10000 (by omega)
   obtain ⟨p1,p2,p3⟩:=AF hb hX hY (by assumption) (by assumption)
   exact ⟨_,rfl,sh (fun w=>mr p1 p2 t w (hq w)) (fun w=>gT hG _ t xo yo p1 p3 w)⟩
  ·cases h
 ·cases h
end
end
end Go.Proofs.YtjabmipkllkfbaaGreatDoor.Vc
