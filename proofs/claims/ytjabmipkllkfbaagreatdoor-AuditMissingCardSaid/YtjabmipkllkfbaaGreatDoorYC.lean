/-
  The engine: what an operation on variables asks for and yields (definitions); Operations on variables are sound (1); Operations on variables are sound (2); Operations on variables are sound (3); Operations on variables are sound (4); Operations on variables are sound (5), joined; The engine is sound: keys that are structs of integers.
-/
import Derived.Test.YtjabmipkllkfbaaGreatDoorYB
import Derived.WideKeyRuns
set_option linter.unusedVariables false
set_option linter.unusedSimpArgs false
namespace Go.Proofs.YtjabmipkllkfbaaGreatDoor.Vc
inductive D where
 /-- a cell that holds an integer of the kind, a truth value, a string, a slice, any value -/
 | openI (k : IntKind) (v : AV)
 | openB (v : AV)
 | openS (v : AV)
 | openV (v : AV)
 | openSl (v : AV)
 /-- so many cells lie there -/
 | has (a : Nat) (off : IE) (n : Nat)
 | nn (a : Nat)
 | arith (op : BinOp) (k : IntKind) (x y : IE)
 | wrap (k : IntKind) (e : IE)
 | cut (off cap lo : IE) (n : Nat)
 | nat (e : IE)
 | pick (k : IntKind) (c : BE) (x y : IE)
 | mm (mx : Bool) (k : IntKind) (x y : IE)
 | seq (x y : AV)
 | slen (x : AV)
 | sidx (x : AV) (i : IE)
 | scat (x y : AV)
 | ssub (x : AV) (lo hi : IE)
 /-- a row of the run's own: so many cells lie there; some are set; a new one; cells are appended; nobody writes it any more -/
 | rhas (r : Nat) (off : IE) (n : Nat)
 | rset (r : Nat) (off : IE) (vs : List AV)
 | mk (n : IE) (zs : List AV)
 | rapp (r : Nat) (n : IE) (k b : Nat) (vs : List AV)
 | frz (a r : Nat)
 /-- a row of the run's own, cell by cell: nobody writes it any more -/
 | pub (vs : List AV)
 | pubc (vs : List AV)
 /-- an entry of a map of the run's own: so many cells, if it is not there these; it is set, struck; how many there are -/
 | mget (g : Bool) (r : Nat) (k : AV) (zs : List AV)
 | mset (r : Nat) (k v : AV)
 | mdel (r : Nat) (k : AV)
 | mnew
 /-- the bytes of a text, in a row of the run's own; the text of some bytes -/
 | sbytes (x : AV)
 | bstr (vs : List AV)
 /-- the cells of a slice of the memory as a row; a row of the run's own that is a full row and further cells; none of them, or some -/
 | mrow (a : Nat) (off n : IE) (size : Nat)
 | grow (rx ry : Nat) (tot : IE) (b : Nat)
 | growk (rx : Nat) (vs : List AV) (tot : IE) (b : Nat)
 | zn (a : Nat) (e : IE)
 /-- whether a slice of the memory is nil -/
 | nul (a : Nat)
 /-- the first elements of a row of the run's own -/
 | rtk (r : Nat) (n : IE) (size : Nat)
 /-- zeros, in a row -/
 | zrow (n : IE) (zs : List AV)
 /-- some cells and the last elements of a row of the run's own -/
 | rdrp (r : Nat) (n : IE) (size : Nat) (vs : List AV)
inductive Pre where
 | need (c : BE)
 | d (x : D)
def strV (pe : PE) : AV → Option (List UInt8)
 | .str l => some l
 | .sv i => lget pe.ς i
 | _ => none
def lazV (pe : PE) : AV → Option Value
 | .cl a off => cellV pe a off
 | .rc r off => rowV pe r off
 | .opq i => opqV pe i
 | _ => none
def isLazy : AV → Bool
 | .cl _ _ | .rc _ _ | .opq _ => true
 | _ => false
def HasN (m : Mem) (p : Addr) (n : Nat) : Prop := ∀ j, j < n → ∃ v, memCell m (p.add j) = some v ∧ oneV v = some v
def HasI (m : Mem) (p : Option Addr) (z : Int) (n : Nat) : Prop := ∃ q o, p = some q ∧ z = Int.ofNat o ∧ HasN m (q.add o) n
def arithV (op : BinOp) (k : IntKind) (x y : Int) : Int :=
 match op with
 | .mul => k.wrap (x * y)
 | .quo => k.wrap (x.tdiv y)
 | .rem => x.tmod y
 | .and => k.wrap (BitVec.ofInt k.bits x &&& BitVec.ofInt k.bits y).toNat
 | .or => k.wrap (BitVec.ofInt k.bits x ||| BitVec.ofInt k.bits y).toNat
 | .xor => k.wrap (BitVec.ofInt k.bits x ^^^ BitVec.ofInt k.bits y).toNat
 | .andNot => k.wrap (BitVec.ofInt k.bits x &&& ~~~(BitVec.ofInt k.bits y)).toNat
 | .shl => k.wrap (x * 2 ^ (min y.toNat k.bits))
 | .shr => x.fdiv (2 ^ (min y.toNat k.bits))
 | _ => 0
def arithP (op : BinOp) (y : Int) : Prop :=
 match op with
 | .mul | .and | .or | .xor | .andNot => True
 | .quo | .rem => y ≠ 0
 | .shl | .shr => 0 ≤ y
 | _ => False
def addI (pe : PE) (x : Int) : PE := { pe with σ := pe.σ ++ [x] }
def addB (pe : PE) (x : Bool) : PE := { pe with β := pe.β ++ [x] }
def addS (pe : PE) (x : List UInt8) : PE := { pe with ς := pe.ς ++ [x] }
def addV (pe : PE) (x : Value) : PE := { pe with τ := pe.τ ++ [x] }
def addR (pe : PE) (x : List Value) : PE := { pe with ρ := pe.ρ ++ [x] }
def noE (pe : PE) : Env := { pe with E := fun _ => none, L := fun _ => none }
def MemSub (m m' : Mem) : Prop := ∀ b o, m b = some o → m' b = some o
def RowAt (m : Mem) (q : Option Addr) (l : List Value) : Prop := ∀ p, q = some p → ∀ j x, l[j]? = some x → memCell m (p.add j) = some x
def sameInts : List Value → List Value → Option Bool
 | [], [] => some true
 | .int k a :: xs, .int k' b :: ys => if k = k' then (match sameInts xs ys with | some r => some ((a == b) && r) | none => none) else none
 | _, _ => none
def sameKey : Value → Value → Option Bool
 | .int k a, .int k' b => if k = k' then some (a == b) else none
 | .string a, .string b => some (a == b)
 | .agg a, .agg b => sameInts a.toList b.toList
 | _, _ => none
def mFind (k : Value) : List Value → Nat → Option (Option (Nat × Value))
 | [], _ => some none
 | .tuple ⟨[k', v]⟩ :: es, i => (match sameKey k k' with
  | some true => some (some (i, v))
  | some false => mFind k es (Nat.succ i)
  | none => none)
 | _ :: _, _ => none
def mPack (g : Bool) (l : List Value) : Value := match g with | true => .agg l.toArray | false => l.headD (.tuple #[])
def mHas (g : Bool) (f : Option (Nat × Value)) (zs l : List Value) : Prop := l.length = zs.length ∧ (∀ x ∈ l, oneV x = some x) ∧ match f with | some (_, v) => v = mPack g l | none => l = zs
def mIs (f : Option (Nat × Value)) : Bool := match f with | some _ => true | none => false
def mSet (f : Option (Nat × Value)) (l : List Value) (k v : Value) : List Value := match f with | some (i, _) => l.set i (.tuple #[k, v]) | none => l ++ [.tuple #[k, v]]
def mDel (f : Option (Nat × Value)) (l : List Value) : List Value := match f with | some (i, _) => l.eraseIdx i | none => l
def D.sat (pe : PE) (K : PE → Prop) : D → Prop
 | .openI k v => ∃ x, lazV pe v = some (.int k x) ∧ (k.min ≤ x ∧ x ≤ k.max) ∧ K (addI pe x)
 | .openB v => ∃ x, lazV pe v = some (.bool x) ∧ K (addB pe x)
 | .openS v => ∃ x, lazV pe v = some (.string ⟨List.toArray x⟩) ∧ K (addS pe x)
 | .openV v => ∃ x, lazV pe v = some x ∧ K (addV pe x)
 | .openSl v => ∃ (p : Option Addr) (n c : Nat), lazV pe v = some (.slice p n c) ∧ (n ≤ c ∧ c ≤ 9223372036854775807) ∧ K (addI (addI (addV pe (.pointer p)) n) c)
 | .has a off n => match placeV pe.τ a, off.val pe.σ with
  | some p, some z => HasI pe.mem p z n ∧ K pe
  | _, _ => False
 | .nn a => match placeV pe.τ a with
  | some p => p ≠ none ∧ K pe
  | none => False
 | .arith op k x y => match x.val pe.σ, y.val pe.σ with
  | some p, some q => arithP op q ∧ ∀ z, z = arithV op k p q → (k.min ≤ z ∧ z ≤ k.max) ∧ K (addI pe z)
  | _, _ => False
 | .wrap k e => match e.val pe.σ with
  | some p => ∀ z, z = k.wrap p → k.min ≤ z → z ≤ k.max → K (addI pe z)
  | none => False
 | .cut off cap lo n => match off.val pe.σ, cap.val pe.σ, lo.val pe.σ with
  | some o, some c, some l => ∃ z : Nat, (z : Int) = (if c = l then o else o + l * n) ∧ z ≤ 9223372036854775807 ∧ K (addI pe z)
  | _, _, _ => False
 | .nat e => match e.val pe.σ with
  | some p => ∃ z : Nat, (z : Int) = p ∧ z ≤ 9223372036854775807 ∧ K (addI pe z)
  | none => False
 | .pick k c x y => match c.val pe.σ pe.β, x.val pe.σ, y.val pe.σ with
  | some b, some p, some q => ∀ z, z = (bif b then p else q) → (k.min ≤ z ∧ z ≤ k.max) ∧ K (addI pe z)
  | _, _, _ => False
 | .mm mx k x y => match x.val pe.σ, y.val pe.σ with
  | some p, some q => ∀ z, z = (bif mx then max p q else min p q) → (k.min ≤ z ∧ z ≤ k.max) ∧ K (addI pe z)
  | _, _ => False
 | .seq x y => match strV pe x, strV pe y with
  | some p, some q => ∀ z, z = decide (p = q) → K (addB pe z)
  | _, _ => False
 | .nul a => match placeV pe.τ a with
  | some p => ∀ z, z = decide (p = none) → K (addB pe z)
  | none => False
 | .slen x => match strV pe x with
  | some l => ∀ z : Int, z = (l.length : Int) → 0 ≤ z ∧ z ≤ 9223372036854775807 ∧ K (addI pe z)
  | none => False
 | .sidx x i => match strV pe x, i.val pe.σ with
  | some l, some j => (0 ≤ j ∧ j < (l.length : Int)) ∧ ∀ z : Int, z = ((l.getD j.toNat 0).toNat : Int) → 0 ≤ z → z ≤ 255 → K (addI pe z)
  | _, _ => False
 | .scat x y => match strV pe x, strV pe y with
  | some p, some q => ((p.length + q.length : Nat) : Int) ≤ 9223372036854775807 ∧ ∀ z, z = p ++ q → K (addS pe z)
  | _, _ => False
 | .ssub x lo hi => match strV pe x, lo.val pe.σ, hi.val pe.σ with
  | some l, some i, some j => (0 ≤ i ∧ i ≤ j ∧ j ≤ (l.length : Int)) ∧ ∀ z, z = (l.drop i.toNat).take (j.toNat - i.toNat) → K (addS pe z)
  | _, _, _ => False
 | .rhas r off n => match lget pe.ρ r, off.val pe.σ with
  | some l, some z => (0 ≤ z ∧ z + (n : Int) ≤ (l.length : Int)) ∧ K pe
  | _, _ => False
 | .rset r off vs => match lget pe.ρ r, off.val pe.σ, concL (noE pe) vs with
  | some l, some z, some xs => (0 ≤ z ∧ z + (xs.length : Int) ≤ (l.length : Int)) ∧ ∀ l', l' = lsetAll l z.toNat xs → K (addR pe l')
  | _, _, _ => False
 | .mk n zs => match n.val pe.σ, concL (noE pe) zs with
  | some z, some xs => (0 ≤ z ∧ z ≤ 1000000) ∧ ∀ (p : Addr) l', l' = repl z.toNat xs → K (addR (addV pe (.pointer (some p))) l')
  | _, _ => False
 | .rapp r n k b vs => match lget pe.ρ r, n.val pe.σ, concL (noE pe) vs with
  | some l, some z, some xs => (2 * (z + (k : Int)) * (b : Int) ≤ 281474976710656) ∧ ∀ (p : Addr) (c : Nat) l', l' = l ++ xs → z + (k : Int) ≤ (c : Int) → c ≤ 9223372036854775807 → K (addR (addI (addV pe (.pointer (some p))) c) l')
  | _, _, _ => False
 | .frz a r => match lget pe.τ a, lget pe.ρ r with
  | some (.pointer q), some l => ∀ m', MemSub pe.mem m' → RowAt m' q l → K { pe with mem := m' }
  | _, _ => False
 | .pub vs => match concL (noE pe) vs with
  | some xs => ∀ (p : Addr) m', MemSub pe.mem m' → RowAt m' (some p) xs → K (addV { pe with mem := m' } (.pointer (some p)))
  | none => False
 | .pubc vs => match concL (noE pe) vs with
  | some xs => ∀ (p : Addr) (c : Nat) m', MemSub pe.mem m' → RowAt m' (some p) xs → c ≤ 9223372036854775807 → K (addI (addV { pe with mem := m' } (.pointer (some p))) c)
  | none => False
 | .mget g r k zs => match lget pe.ρ r, k.conc (noE pe), concL (noE pe) zs with
  | some l, some x, some z => ∃ f, mFind x l 0 = some f ∧ ∀ b, b = mIs f → ∃ l', mHas g f z l' ∧ K (addR (addB pe b) l')
  | _, _, _ => False
 | .mset r k v => match lget pe.ρ r, k.conc (noE pe), v.conc (noE pe) with
  | some l, some x, some y => ∃ f, mFind x l 0 = some f ∧ ∀ l', l' = mSet f l x y → K (addR pe l')
  | _, _, _ => False
 | .mdel r k => match lget pe.ρ r, k.conc (noE pe) with
  | some l, some x => ∃ f, mFind x l 0 = some f ∧ ∀ l', l' = mDel f l → K (addR pe l')
  | _, _ => False
 | .mnew => ∀ p : Nat, K (addR (addV pe (.map (some p))) [])
 | .sbytes x => match strV pe x with
  | some l => (l.length : Int) ≤ 9223372036854775807 ∧ ∀ (p : Addr) (n c : Nat) l', n = l.length → n ≤ c → c ≤ 9223372036854775807 → l' = l.map (fun b => Value.int .u8 (b.toNat : Int)) → K (addR (addI (addI (addV pe (.pointer (some p))) n) c) l')
  | none => False
 | .mrow a off n size => match placeV pe.τ a, off.val pe.σ, n.val pe.σ with
  | some p, some o, some z => ∃ l : List Value, (l.length : Int) = z * (size : Int) ∧ (∀ (j : Nat) (v : Value), l[j]? = some v → cellI pe.mem p (o + (j : Int)) = some v) ∧ K (addR pe l)
  | _, _, _ => False
 | .grow rx ry tot b => match lget pe.ρ rx, lget pe.ρ ry, tot.val pe.σ with
  | some lx, some ly, some z => (2 * z * (b : Int) ≤ 281474976710656) ∧ ∀ (q : Option Addr) (c : Nat) l', l' = lx ++ ly → z ≤ (c : Int) → c ≤ 9223372036854775807 → (q = none → z = 0) → K (addR (addI (addV pe (.pointer q)) c) l')
  | _, _, _ => False
 | .growk rx vs tot b => match lget pe.ρ rx, concL (noE pe) vs, tot.val pe.σ with
  | some lx, some ly, some z => (2 * z * (b : Int) ≤ 281474976710656) ∧ ∀ (q : Option Addr) (c : Nat) l', l' = lx ++ ly → z ≤ (c : Int) → c ≤ 9223372036854775807 → (q = none → z = 0) → K (addR (addI (addV pe (.pointer q)) c) l')
  | _, _, _ => False
 | .zn a e => match placeV pe.τ a, e.val pe.σ with
  | some p, some z => (z = 0 → p = none) ∧ K pe
  | _, _ => False
 | .rtk r n size => match lget pe.ρ r, n.val pe.σ with
  | some l, some z => (0 ≤ z ∧ z * (size : Int) ≤ (l.length : Int)) ∧ ∀ l', l' = l.take (z.toNat * size) → K (addR pe l')
  | _, _ => False
 | .zrow n zs => match n.val pe.σ, concL (noE pe) zs with
  | some z, some xs => (0 ≤ z ∧ z ≤ 1000000) ∧ ∀ l, l = repl z.toNat xs → K (addR pe l)
  | _, _ => False
 | .rdrp r n size vs => match lget pe.ρ r, n.val pe.σ, concL (noE pe) vs with
  | some l, some z, some xs => (0 ≤ z ∧ z * (size : Int) ≤ (l.length : Int)) ∧ ∀ l', l' = xs ++ l.drop (z.toNat * size) → K (addR pe l')
  | _, _, _ => False
 | .bstr vs => match concL (noE pe) vs with
  | some xs => ∃ ns : List Int, xs = ns.map (Value.int .u8) ∧ ∀ x, x = ns.map (fun n => UInt8.ofNat n.toNat) → K (addS pe x)
  | none => False
def BE.T (σ : List Int) (β : List Bool) : BE → Bool → Prop
 | .var i, t => match lget β i with | some b => b = t | none => False
 | .le a b, t => match a.val σ, b.val σ with | some x, some y => bif t then x ≤ y else y < x | _, _ => False
 | .eq a b, t => match a.val σ, b.val σ with | some x, some y => bif t then x = y else x ≠ y | _, _ => False
 | .not c, t => c.T σ β (!t)
 | .and c d, t => bif t then c.T σ β true ∧ d.T σ β true else (c.T σ β true → d.T σ β false)
def Pre.sat (pe : PE) (K : PE → Prop) : Pre → Prop
 | .need c => match c.val pe.σ pe.β with
  | some _ => c.T pe.σ pe.β true ∧ K pe
  | none => False
 | .d x => x.sat pe K
def preSat : List Pre → PE → (PE → Prop) → Prop
 | [], pe, K => K pe
 | p :: ps, pe, K => p.sat pe fun pe => preSat ps pe K
def pushI (s : S) (lo hi : Int) : S := { s with know := { s.know with rng := s.know.rng ++ [(lo, hi)] } }
def nI (s : S) : Nat := llen s.know.rng
def pushB (s : S) : S := { s with nb := Nat.succ s.nb }
def pushS (s : S) : S := { s with ns := Nat.succ s.ns }
def pushV (s : S) : S := { s with nv := Nat.succ s.nv }
def pushR (s : S) : S := { s with nr := Nat.succ s.nr }
def memoAdd (s : S) (c v : AV) : S := { s with memo := (c, v) :: s.memo }
def memoGet : List (AV × AV) → AV → Option AV
 | [], _ => none
 | (c, v) :: l, x => bif AV.eqb c x then some v else memoGet l x
abbrev Sym := Option (List Pre × AV × S)
def force (g : G) (t : TypeId) (v : AV) (s : S) : Sym :=
 bif isLazy v then
  match memoGet s.memo v with
  | some u => some ([], u, s)
  | none =>
   match g.ty.get t with
   | some ti => (match ti.desc with
    | .int k => some ([.d (.openI k v)], .int k (.var (nI s)), memoAdd (pushI s k.min k.max) v (.int k (.var (nI s))))
    | .bool => some ([.d (.openB v)], .bx (.var s.nb), memoAdd (pushB s) v (.bx (.var s.nb)))
    | .string => some ([.d (.openS v)], .sv s.ns, memoAdd (pushS s) v (.sv s.ns))
    | .slice _ => some ([.d (.openSl v)], .sl s.nv (.lit 0) (.var (nI s)) (.var (Nat.succ (nI s))), memoAdd (pushI (pushI (pushV s) 0 9223372036854775807) 0 9223372036854775807) v (.sl s.nv (.lit 0) (.var (nI s)) (.var (Nat.succ (nI s)))))
    | _ => some ([], v, s))
   | none => none
 else some ([], v, s)
def needLe (s : S) (a b : IE) : List Pre := match leE s.know a b with | some true => [] | _ => [.need (.le a b)]
def needLt (s : S) (a b : IE) : List Pre := match leE s.know b a with | some false => [] | _ => [.need (.not (.le b a))]
def inKind (s : S) (k : IntKind) (e : IE) : List Pre := needLe s (.lit k.min) e ++ needLe s e (.lit k.max)
def pushArith (s : S) (op : BinOp) (k : IntKind) (x y : IE) : Sym := some ([.d (.arith op k x y)], .int k (.var (nI s)), pushI s k.min k.max)
def mulE (a b : IE) : IE := match a, b with
 | .lit x, .lit y => .lit (x * y)
 | a, .lit y => bif ieq y 1 then a else .mul a (.lit y)
 | a, b => .mul a b
def leB (s : S) (a b : IE) : AV := match leE s.know a b with | some t => .bool t | none => .bx (.le a b)
def eqB (s : S) (a b : IE) : AV := match eqE s.know a b with | some t => .bool t | none => .bx (.eq a b)
def notB : AV → AV
 | .bool b => .bool (!b)
 | .bx (.not c) => .bx c
 | .bx c => .bx (.not c)
 | v => v
def andB : AV → AV → Option AV
 | .bool true, v => some v
 | .bool false, _ => some (.bool false)
 | .bx c, .bool true => some (.bx c)
 | .bx _, .bool false => some (.bool false)
 | .bx c, .bx d => some (.bx (.and c d))
 | _, _ => none
def symInt (s : S) (op : BinOp) (k : IntKind) (x y : IE) : Sym :=
 match op with
 | .add => bif k.signed then some (inKind s k (addE x y), .int k (addE x y), s) else some ([.d (.wrap k (addE x y))], .int k (.var (nI s)), pushI s k.min k.max)
 | .sub => bif k.signed then some (inKind s k (subE x y), .int k (subE x y), s) else some ([.d (.wrap k (subE x y))], .int k (.var (nI s)), pushI s k.min k.max)
 | .mul => bif k.signed then some (inKind s k (mulE x y), .int k (mulE x y), s) else pushArith s op k x y
 | .quo | .rem | .and | .or | .xor | .andNot => pushArith s op k x y
 | .eql => some ([], eqB s x y, s)
 | .neq => some ([], notB (eqB s x y), s)
 | .leq => some ([], leB s x y, s)
 | .gtr => some ([], notB (leB s x y), s)
 | .geq => some ([], leB s y x, s)
 | .lss => some ([], notB (leB s y x), s)
 | _ => none
def isStr : AV → Bool
 | .str _ | .sv _ => true
 | _ => false
def symStr (s : S) (op : BinOp) (x y : AV) : Sym :=
 match op with
 | .add => some ([.d (.scat x y)], .sv s.ns, pushS s)
 | .eql => some ([.d (.seq x y)], .bx (.var s.nb), pushB s)
 | .neq => some ([.d (.seq x y)], .bx (.not (.var s.nb)), pushB s)
 | _ => none
def eqBB : AV → AV → Option AV
 | .bool a, .bool b => some (.bool (a == b))
 | .bx c, .bool b => some (bif b then .bx c else notB (.bx c))
 | .bool b, .bx c => some (bif b then .bx c else notB (.bx c))
 | .bx c, .bx d => some (.bx (.and (.not (.and c (.not d))) (.not (.and d (.not c)))))
 | _, _ => none
def symBool (g : G) (s : S) (op : BinOp) (t : TypeId) (x y : AV) : Sym :=
 match g.ty.get t, eqBB x y with
 | some ti, some v => (match ti.desc, op with
  | .bool, .eql => some ([], v, s)
  | .bool, .neq => some ([], notB v, s)
  | _, _ => none)
 | _, _ => none
def symEqF (rec : TypeId → AV → AV → S → Sym) (g : G) (xs ys : List AV) : List Field → S → Sym
 | [], s => some ([], .bool true, s)
 | f :: fs, s =>
  bif f.name == "_" then none else
  match partT g f.type xs f.offset, partT g f.type ys f.offset with
  | some x, some y => (match rec f.type x y s with
   | some (p, b, s) => (match symEqF rec g xs ys fs s with
    | some (q, c, s) => (match andB b c with | some d => some (p ++ q, d, s) | none => none)
    | none => none)
   | none => none)
  | _, _ => none
def symEqV (s : S) : TypeDesc → AV → AV → Sym
 | .int _, .int k a, .int k' b => bif kindEq k k' then some ([], eqB s a b, s) else none
 | .string, x, y => bif isStr x && isStr y then
   (match x, y with
    | .str a, .str b => some ([], .bool (bytesEq a b), s)
    | x, y => some ([.d (.seq x y)], .bx (.var s.nb), pushB s)) else none
 | .bool, x, y => (match eqBB x y with | some v => some ([], v, s) | none => none)
 | _, _, _ => none
def symEqT (g : G) : Nat → TypeId → AV → AV → S → Sym
 | 0, _, _, _, _ => none
 | d + 1, t, x, y, s =>
  match g.ty.get t with
  | none => none
  | some ti =>
   match ti.desc, x, y with
   | .struct fields, .agg xs, .agg ys => bif memN g.eqs t then symEqF (symEqT g d) g xs ys fields.toList s else none
   | _, x, y =>
    match force g t x s with
    | some (p, x, s) => (match force g t y s with
     | some (q, y, s) => (match symEqV s ti.desc x y with
      | some (r, b, s) => some (p ++ (q ++ r), b, s)
      | none => none)
     | none => none)
    | none => none
def symNil (g : G) (s : S) (t : TypeId) (a : Nat) (neg : Bool) : Sym :=
 match g.ty.get t with
 | some ti => (match ti.desc with
  | .slice _ => some ([.d (.nul a)], .bx (bif neg then .not (.var s.nb) else .var s.nb), pushB s)
  | _ => none)
 | none => none
def symBin (g : G) (s : S) (op : BinOp) (t : TypeId) (x y : AV) : Sym :=
 match op, x, y with
 | .shl, .int k a, .int _ b => pushArith s .shl k a b
 | .shr, .int k a, .int _ b => pushArith s .shr k a b
 | op, .int k a, .int k' b => bif kindEq k k' then symInt s op k a b else none
 | .eql, .agg xs, .agg ys => symEqT g 100 t (.agg xs) (.agg ys) s
 | .neq, .agg xs, .agg ys => (match symEqT g 100 t (.agg xs) (.agg ys) s with | some (p, .bool b, s) => some (p, .bool (!b), s) | some (p, .bx c, s) => some (p, notB (.bx c), s) | _ => none)
 | .eql, .sl a _ _ _, .nils => symNil g s t a false
 | .neq, .sl a _ _ _, .nils => symNil g s t a true
 | op, x, y => bif isStr x && isStr y then symStr s op x y else symBool g s op t x y
def cellsAt (a : Nat) (off : IE) : Nat → Nat → List AV
 | 0, _ => []
 | n + 1, i => .cl a (plusE off i) :: cellsAt a off n (Nat.succ i)
def symLen (g : G) (s : S) (t : TypeId) (x : AV) : Sym :=
 match g.ty.get t with
 | none => none
 | some ti =>
  match ti.desc, x with
  | .slice _, .sl _ _ n _ => some ([], .int .i64 n, s)
  | .string, .sv i => some ([.d (.slen (.sv i))], .int .i64 (.var (nI s)), pushI s 0 9223372036854775807)
  | _, _ => none
def symCap (g : G) (s : S) (t : TypeId) (x : AV) : Sym :=
 match g.ty.get t with
 | none => none
 | some ti =>
  match ti.desc, x with
  | .slice _, .sl _ _ _ c => some ([], .int .i64 c, s)
  | _, _ => none
def symMM (mx : Bool) : AV → List AV → S → Sym
 | x, [], s => some ([], x, s)
 | .int k a, .int k' b :: r, s =>
  bif kindEq k k' then
   match leE s.know a b with
   | some t => symMM mx (.int k (bif mx then (bif t then b else a) else (bif t then a else b))) r s
   | none =>
    match symMM mx (.int k (.var (nI s))) r (pushI s k.min k.max) with
    | some (p, v, s) => some (.d (.mm mx k a b) :: p, v, s)
    | none => none
  else none
 | _, _, _ => none
def ieOf : AV → Option (IntKind × IE)
 | .int k e => some (k, e)
 | _ => none
def boundE (a : A) (s : S) (o : Option Operand) (dflt : IE) : Option IE :=
 match o with
 | none => some dflt
 | some x => match evO a s x with | some (.int _ e) => some e | _ => none
def isLit0 : IE → Bool
 | .lit n => ieq n 0
 | _ => false
def symSlice (g : G) (a : A) (s : S) (t : TypeId) (x : AV) (lo hi : Option Operand) : Sym :=
 match g.ty.get t with
 | none => none
 | some ti =>
  match ti.desc, x with
  | .slice e, .sl b off len cap =>
   (match boundE a s lo (.lit 0), boundE a s hi len, g.ty.get e with
    | some i, some j, some te =>
     bif isLit0 i then some (needLe s (.lit 0) j ++ (needLe s j cap ++ [.d (.nat j)]), .sl b off (.var (nI s)) cap, pushI s 0 9223372036854775807)
     else some (needLe s (.lit 0) i ++ (needLe s i j ++ (needLe s j cap ++ [.d (.cut off cap i te.size), .d (.nat (subE j i)), .d (.nat (subE cap i))])), .sl b (.var (nI s)) (.var (Nat.succ (nI s))) (.var (Nat.succ (Nat.succ (nI s)))), pushI (pushI (pushI s 0 9223372036854775807) 0 9223372036854775807) 0 9223372036854775807)
    | _, _, _ => none)
  | .string, x => bif isStr x then
    (match boundE a s lo (.lit 0), hi with
     | some i, some _ => (match boundE a s hi (.lit 0) with
      | some j => some ([.d (.ssub x i j)], .sv s.ns, pushS s)
      | none => none)
     | some i, none => some ([.d (.slen x), .d (.ssub x i (.var (nI s)))], .sv s.ns, pushS (pushI s 0 9223372036854775807))
     | _, _ => none) else none
  | _, _ => none
def symIndexAddr (g : G) (s : S) (t : TypeId) (x i : AV) : Sym :=
 match g.ty.get t, x, i with
 | some ti, .sl b off len _, .int _ e => (match ti.desc with
  | .slice et => (match g.ty.get et with
   | some te => some (needLe s (.lit 0) e ++ (needLt s e len ++ [.d (.nn b)]), .pt b (addE off (mulE e (.lit (Int.ofNat te.size)))), s)
   | none => none)
  | _ => none)
 | _, _, _ => none
def symIndex (s : S) (x i : AV) : Sym :=
 match i with
 | .int _ e => bif isStr x then some ([.d (.sidx x e)], .int .u8 (.var (nI s)), pushI s 0 255) else none
 | _ => none
abbrev HX := Nat × Option Nat × IE
def rowAt (r : Nat) (off : IE) : Nat → Nat → List AV
 | 0, _ => []
 | n + 1, i => .rc r (plusE off i) :: rowAt r off n (Nat.succ i)
def rowHs (a r : Nat) (off : IE) : Nat → Nat → List HX
 | 0, _ => []
 | n + 1, i => (a, some r, plusE off i) :: rowHs a r off n (Nat.succ i)
def symLoad (g : G) (s : S) (t : TypeId) (x : AV) : Option (List Pre × AV × S × List HX) :=
 match g.ty.get t, x with
 | some ti, .pt b off =>
  match ownGet s.own b with
  | some o =>
   bif o.m then none else
   bif isAggD ti.desc then some ([.d (.rhas o.r off ti.size)], .agg (rowAt o.r off ti.size 0), s, rowHs b o.r off ti.size 0)
   else some ([.d (.rhas o.r off 1)], .rc o.r off, s, [(b, some o.r, off)])
  | none =>
  bif isAggD ti.desc then some ([.d (.has b off ti.size)], .agg (cellsAt b off ti.size 0), s, (cellsAt b off ti.size 0).filterMap fun | .cl a o => some (a, none, o) | _ => none)
  else some ([.d (.has b off 1)], .cl b off, s, [(b, none, off)])
 | _, _ => none
def noHeld : Sym → Option (List Pre × AV × S × List HX)
 | some (p, v, s) => some (p, v, s, [])
 | none => none
def symCall (g : G) (a : A) (s : S) (c : Call) : Sym :=
 match c.callee, c.argTypes.toList, evL a s c.args.toList with
 | .builtin .len, t :: _, some (x :: _) => symLen g s t x
 | .builtin .cap, t :: _, some (x :: _) => symCap g s t x
 | .builtin .max, _, some (x :: r) => symMM true x r s
 | .builtin .min, _, some (x :: r) => symMM false x r s
 | _, _, _ => none
def symA (g : G) (a : A) (s : S) (o : Oper) : Option (List Pre × AV × S × List HX) :=
 match o.op with
 | .binOp op t x y _ => (match evO a s x, evO a s y with
  | some x, some y => noHeld (symBin g s op t x y)
  | _, _ => none)
 | .unOp .not _ x => (match evO a s x with
  | some (.bx c) => some ([], notB (.bx c), s, [])
  | _ => none)
 | .unOp .neg _ x => (match evO a s x with
  | some (.int k e) => noHeld (symInt s .sub k (.lit 0) e)
  | _ => none)
 | .convert t u x => (match evO a s x, g.ty.get u, g.ty.get t with
  | some (.int _ e), some tu, some _ => (match tu.desc with
   | .int k => some ([.d (.wrap k e)], .int k (.var (nI s)), pushI s k.min k.max, [])
   | _ => none)
  | _, _, _ => none)
 | .pick c x y => (match evO a s c, evO a s x, evO a s y with
  | some (.bx c), some (.int k p), some (.int k' q) => bif kindEq k k' then some ([.d (.pick k c p q)], .int k (.var (nI s)), pushI s k.min k.max, []) else none
  | _, _, _ => none)
 | .slice t x lo (some hi) (some mx) => (match evO a s x, boundE a s lo (.lit 0), boundE a s (some hi) (.lit 0), boundE a s (some mx) (.lit 0), g.ty.get t with
  | some (.sl b off _ cap), some i, some (.lit h), some (.lit m), some ti => (match ti.desc with
   | .slice e => (match g.ty.get e with
    | some _ => bif isLit0 i && ile 0 h && ile h m && ile m 9223372036854775807 then some (needLe s (.lit m) cap, .sl b off (.lit h) (.lit m), s, []) else none
    | none => none)
   | _ => none)
  | _, _, _, _, _ => none)
 | .slice t x lo hi none => (match evO a s x with
  | some x => noHeld (symSlice g a s t x lo hi)
  | none => none)
 | .indexAddr t x i => (match evO a s x, evO a s i with
  | some x, some i => noHeld (symIndexAddr g s t x i)
  | _, _ => none)
 | .index t x i => (match evO a s x, evO a s i with
  | some x, some i => (match g.ty.get t with
   | some ti => (match ti.desc with | .string => noHeld (symIndex s x i) | _ => none)
   | none => none)
  | _, _ => none)
 | .load t x => (match evO a s x with
  | some x => symLoad g s t x
  | none => none)
 | .call c => noHeld (symCall g a s c)
 | _ => none
def unlz (s : S) (v : AV) : AV := bif isLazy v then (match memoGet s.memo v with | some u => u | none => v) else v
def unlzL (s : S) : List AV → List AV
 | [] => []
 | v :: l => unlz s v :: unlzL s l
def unlzV (s : S) : AV → AV
 | .agg l => .agg (unlzL s l)
 | v => unlz s v
def cellTysF (rec : TypeId → Option (List TypeId)) : List Field → Option (List TypeId)
 | [] => some []
 | f :: fs => (match rec f.type, cellTysF rec fs with | some a, some b => some (a ++ b) | _, _ => none)
def cellTys (g : G) : Nat → TypeId → Option (List TypeId)
 | 0, _ => none
 | d + 1, t => (match g.ty.get t with
  | some ti => (match ti.desc with
   | .struct fields => cellTysF (cellTys g d) fields.toList
   | .array n e => (match cellTys g d e with | some l => some (repl n l) | none => none)
   | _ => some [t])
  | none => none)
def zipT : List TypeId → List AV → List (TypeId × AV)
 | t :: ts, v :: vs => (t, v) :: zipT ts vs
 | _, _ => []
def zipTy (g : G) (t : TypeId) (l : List AV) : List (TypeId × AV) := match cellTys g 20 t with | some ts => zipT ts l | none => []
def forceLs (g : G) : List (TypeId × AV) → S → List Pre × S
 | [], s => ([], s)
 | (t, v) :: l, s => (match force g t v s with
  | some (p, _, s1) => (match forceLs g l s1 with | (q, s2) => (p ++ q, s2))
  | none => forceLs g l s)
def moved (g : G) (a : A) (s : S) (o : Oper) : List (TypeId × AV) :=
 match o.op with
 | .store t _ y => (match evO a s y with | some y => zipTy g t y.cells | none => [])
 | .mapUpdate t _ k x => (match g.ty.get t, evO a s k, evO a s x with | some ti, some k, some x => (match ti.desc with | .map kt et => zipTy g kt k.cells ++ zipTy g et x.cells | _ => []) | _, _, _ => [])
 | .insert t _ k x => (match g.ty.get t, evO a s k, evO a s x with | some ti, some k, some x => (match ti.desc with | .map kt et => zipTy g kt k.cells ++ zipTy g et x.cells | _ => []) | _, _, _ => [])
 | .lookup t _ k _ => (match g.ty.get t, evO a s k with | some ti, some k => (match ti.desc with | .map kt _ => zipTy g kt k.cells | _ => []) | _, _ => [])
 | .call c => (match c.callee, c.argTypes.toList, evL a s c.args.toList with
  | .builtin .delete, t :: _, some [_, k] => (match g.ty.get t with | some ti => (match ti.desc with | .map kt _ => zipTy g kt k.cells | _ => []) | none => [])
  | .builtin .append, [t, _], some [.sl _ _ _ _, y] => (match g.ty.get t with
   | some ti => (match ti.desc with
    | .slice e => (match g.ty.get e with
     | some te => (match srcCells s te.size y with | some (1, l) => zipTy g e l | _ => [])
     | none => [])
    | _ => [])
   | none => [])
  | _, _, _ => [])
 | _ => []
def symStore (g : G) (s : S) (t : TypeId) (x y : AV) : Sym :=
 match g.ty.get t, x with
 | some ti, .pt b off =>
  (match ownGet s.own b with
   | some o => bif !o.m && Nat.beq (llen y.cells) ti.size && allOne y.cells then some ([.d (.rset o.r off (unlzL s y.cells))], undefA, { pushR s with own := { o with r := s.nr } :: ownDel s.own b }) else none
   | none => none)
 | _, _ => none
def symMake (g : G) (s : S) (t : TypeId) (l c : AV) : Sym :=
 match g.ty.get t, l, c with
 | some ti, .int _ e, .int _ e' =>
  (match ti.desc with
   | .slice et => (match g.ty.get et with
    | some te => (match te.zero with
     | some z =>
      bif e.eqb e' && Nat.beq (llen z.cells) te.size && !Nat.beq te.size 0 && Nat.ble te.bytes 1000000 && allOne z.cells then
       some ([.d (.mk e z.cells)], .sl s.nv (.lit 0) e e, { pushR (pushV s) with own := { a := s.nv, r := s.nr, e := et, len := e, cap := e } :: s.own })
      else none
     | none => none)
    | none => none)
   | _ => none)
 | _, _, _ => none
def notInt : TypeDesc → Bool
 | .int _ => false
 | _ => true
def symApp (g : G) (s : S) (t u : TypeId) (x y : AV) : Sym :=
 match g.ty.get t, g.ty.get u, x with
 | some ti, some tu, .sl b off n c =>
  (match ti.desc, ownGet s.own b with
   | .slice e, some o => (match g.ty.get e with
    | some te => (match srcCells s te.size y with
     | some (k, new) =>
      bif !o.m && notInt tu.desc && isLit0 off && o.len.eqb n && o.cap.eqb c && Nat.beq o.e e && !Nat.beq k 0 && !Nat.beq te.size 0 && !Nat.beq te.bytes 0 && allOne new && zOk te then
       some ([.d (.rapp o.r n k te.bytes (unlzL s new))], .sl s.nv (.lit 0) (addE n (.lit (Int.ofNat k))) (.var (nI s)),
        { pushR (pushI (pushV s) 0 9223372036854775807) with own := { a := s.nv, r := s.nr, e := e, len := addE n (.lit (Int.ofNat k)), cap := .var (nI s) } :: ownDel s.own b })
      else none
     | none => none)
    | none => none)
   | _, _ => none)
 | _, _, _ => none
def symNew (g : G) (s : S) (t u : TypeId) (x y : AV) : Sym :=
 match g.ty.get t, g.ty.get u, x, y with
 | some ti, some tu, .slice _ _ 0 (some 0) _, .sl b2 off2 n2 _ =>
  (match ti.desc with
   | .slice e => (match g.ty.get e with
    | some te =>
     bif notInt tu.desc && !Nat.beq te.size 0 && !Nat.beq te.bytes 0 && zOk te then
      (match ownGet s.own b2 with
       | some o =>
        bif !o.m && isLit0 off2 && o.len.eqb n2 && Nat.beq o.e e then
         some (needLe s (.lit 1) n2 ++ [.d (.mrow b2 off2 (.lit 0) te.size), .d (.grow s.nr o.r n2 te.bytes)], .sl s.nv (.lit 0) n2 (.var (nI s)),
          { pushR (pushR (pushI (pushV s) 0 9223372036854775807)) with own := { a := s.nv, r := Nat.succ s.nr, e := e, len := n2, cap := .var (nI s) } :: s.own })
        else none
       | none =>
        some (needLe s (.lit 1) n2 ++ [.d (.mrow b2 off2 (.lit 0) te.size), .d (.mrow b2 off2 n2 te.size), .d (.grow s.nr (Nat.succ s.nr) n2 te.bytes)], .sl s.nv (.lit 0) n2 (.var (nI s)),
         { pushR (pushR (pushR (pushI (pushV s) 0 9223372036854775807))) with own := { a := s.nv, r := Nat.succ (Nat.succ s.nr), e := e, len := n2, cap := .var (nI s) } :: s.own }))
     else none
    | none => none)
   | _ => none)
 | _, _, _, _ => none
def symAppV (g : G) (s : S) (t u : TypeId) (x y : AV) : Sym :=
 match g.ty.get t, g.ty.get u, x, y with
 | some ti, some tu, .sl b off n c, .sl b2 off2 n2 _ =>
  (match ti.desc, ownGet s.own b with
   | .slice e, some o => (match g.ty.get e with
    | some te =>
     bif !o.m && notInt tu.desc && isLit0 off && o.cap.eqb c && Nat.beq o.e e && !Nat.beq te.size 0 && !Nat.beq te.bytes 0 && zOk te then
      (match ownGet s.own b2 with
       | some o2 =>
        bif !o2.m && isLit0 off2 && o2.len.eqb n2 && Nat.beq o2.e e then
         some ([.d (.rtk o.r n te.size), .d (.grow s.nr o2.r (addE n n2) te.bytes)], .sl s.nv (.lit 0) (addE n n2) (.var (nI s)),
          { pushR (pushR (pushI (pushV s) 0 9223372036854775807)) with own := { a := s.nv, r := Nat.succ s.nr, e := e, len := addE n n2, cap := .var (nI s) } :: ownDel s.own b })
        else none
       | none =>
        some ([.d (.rtk o.r n te.size), .d (.mrow b2 off2 n2 te.size), .d (.grow s.nr (Nat.succ s.nr) (addE n n2) te.bytes)], .sl s.nv (.lit 0) (addE n n2) (.var (nI s)),
         { pushR (pushR (pushR (pushI (pushV s) 0 9223372036854775807))) with own := { a := s.nv, r := Nat.succ (Nat.succ s.nr), e := e, len := addE n n2, cap := .var (nI s) } :: ownDel s.own b }))
     else none
    | none => none)
   | _, _ => none)
 | _, _, _, _ => none
def symAppN (g : G) (s : S) (t u : TypeId) (x y : AV) : Sym :=
 match g.ty.get t, g.ty.get u, x, y with
 | some ti, some tu, .nils, .sl b2 off2 n2 _ =>
  (match ti.desc with
   | .slice e => (match g.ty.get e with
    | some te =>
     bif notInt tu.desc && !Nat.beq te.size 0 && !Nat.beq te.bytes 0 && zOk te then
      (match ownGet s.own b2 with
       | some o =>
        bif !o.m && isLit0 off2 && o.len.eqb n2 && Nat.beq o.e e then
         some ([.d (.mrow b2 off2 (.lit 0) te.size), .d (.grow s.nr o.r n2 te.bytes)], .sl s.nv (.lit 0) n2 (.var (nI s)),
          { pushR (pushR (pushI (pushV s) 0 9223372036854775807)) with own := { a := s.nv, r := Nat.succ s.nr, e := e, len := n2, cap := .var (nI s) } :: s.own })
        else none
       | none =>
        some ([.d (.mrow b2 off2 (.lit 0) te.size), .d (.mrow b2 off2 n2 te.size), .d (.grow s.nr (Nat.succ s.nr) n2 te.bytes)], .sl s.nv (.lit 0) n2 (.var (nI s)),
         { pushR (pushR (pushR (pushI (pushV s) 0 9223372036854775807))) with own := { a := s.nv, r := Nat.succ (Nat.succ s.nr), e := e, len := n2, cap := .var (nI s) } :: s.own }))
     else none
    | none => none)
   | _ => none)
 | _, _, _, _ => none
def symAppZ (g : G) (s : S) (t u : TypeId) (x y : AV) : Sym :=
 match g.ty.get t, g.ty.get u, x, y with
 | some ti, some tu, .nils, .int .i64 e =>
  (match ti.desc with
   | .slice et => (match g.ty.get et with
    | some te => (match te.zero with
     | some z =>
      bif !notInt tu.desc && Nat.beq (llen z.cells) te.size && !Nat.beq te.size 0 && !Nat.beq te.bytes 0 && Nat.ble te.bytes 1000000 && allOne z.cells && zOk te then
       some ([.d (.zrow (.lit 0) z.cells), .d (.zrow e z.cells), .d (.grow s.nr (Nat.succ s.nr) e te.bytes)], .sl s.nv (.lit 0) e (.var (nI s)),
        { pushR (pushR (pushR (pushI (pushV s) 0 9223372036854775807))) with own := { a := s.nv, r := Nat.succ (Nat.succ s.nr), e := et, len := e, cap := .var (nI s) } :: s.own })
      else none
     | none => none)
    | none => none)
   | _ => none)
 | _, _, _, _ => none
def symApp0 (g : G) (s : S) (t u : TypeId) (x y : AV) : Sym :=
 match g.ty.get t, g.ty.get u, x with
 | some ti, some tu, .sl b off n c =>
  (match ti.desc, ownGet s.own b with
   | .slice e, some o => (match g.ty.get e with
    | some te => (match srcCells s te.size y with
     | some (k, new) => bif !o.m && notInt tu.desc && isLit0 off && o.len.eqb n && o.cap.eqb c && Nat.beq k 0 then some ([], .sl b off n c, s) else none
     | none => none)
    | none => none)
   | _, _ => none)
 | _, _, _ => none
def needEq (s : S) (a b : IE) : List Pre := bif a.eqb b then [] else [.need (.eq a b)]
def symGrow (g : G) (s : S) (t u : TypeId) (x y : AV) : Sym :=
 match g.ty.get t, g.ty.get u, x with
 | some ti, some tu, .sl b off n c =>
  (match ti.desc with
   | .slice e => (match g.ty.get e with
    | some te =>
     bif notInt tu.desc && !Nat.beq te.size 0 && !Nat.beq te.bytes 0 && zOk te && (isLit0 n || (match ownGet s.own b with | none => true | some _ => false)) then
      match y with
      | .sl b2 off2 n2 _ =>
       let tot := addE n n2
       (match ownGet s.own b2 with
        | some o =>
         bif !o.m && isLit0 off2 && o.len.eqb n2 && Nat.beq o.e e then
          some (needEq s n c ++ [.d (.mrow b off n te.size), .d (.zn b n2), .d (.grow s.nr o.r tot te.bytes)], .sl s.nv (.lit 0) tot (.var (nI s)),
           { pushR (pushR (pushI (pushV s) 0 9223372036854775807)) with own := { a := s.nv, r := Nat.succ s.nr, e := e, len := tot, cap := .var (nI s) } :: s.own })
         else none
        | none =>
         some (needEq s n c ++ [.d (.mrow b off n te.size), .d (.zn b n2), .d (.mrow b2 off2 n2 te.size), .d (.grow s.nr (Nat.succ s.nr) tot te.bytes)], .sl s.nv (.lit 0) tot (.var (nI s)),
          { pushR (pushR (pushR (pushI (pushV s) 0 9223372036854775807))) with own := { a := s.nv, r := Nat.succ (Nat.succ s.nr), e := e, len := tot, cap := .var (nI s) } :: s.own }))
      | y => (match srcCells s te.size y with
       | some (k, new) =>
        bif !Nat.beq k 0 && allOne new then
         let tot := addE n (.lit (Int.ofNat k))
         some (needEq s n c ++ [.d (.mrow b off n te.size), .d (.growk s.nr (unlzL s new) tot te.bytes)], .sl s.nv (.lit 0) tot (.var (nI s)),
          { pushR (pushR (pushI (pushV s) 0 9223372036854775807)) with own := { a := s.nv, r := Nat.succ s.nr, e := e, len := tot, cap := .var (nI s) } :: s.own })
        else none
       | none => none)
     else none
    | none => none)
   | _ => none)
 | _, _, _ => none
def keyE : TypeDesc → AV → Bool
 | .int _, .int _ _ => true
 | .string, .str _ => true
 | .string, .sv _ => true
 | _, _ => false
def isAggA : AV → Bool
 | .agg _ => true
 | _ => false
def keyIntsF (rec : TypeId → Option (List IntKind)) (g : G) : List Field → Nat → Option (List IntKind)
 | [], _ => some []
 | f :: fs, o =>
  bif f.name == "_" then none else
  bif Nat.beq f.offset o then
   match rec f.type, g.ty.get f.type with
   | some l, some ti => bif Nat.beq ti.size (llen l) then (match keyIntsF rec g fs (Nat.add o (llen l)) with | some r => some (l ++ r) | none => none) else none
   | _, _ => none
  else none
def keyInts (g : G) : Nat → TypeId → Option (List IntKind)
 | 0, _ => none
 | d + 1, t =>
  match g.ty.get t with
  | some ti => (match ti.desc with
   | .int k => some [k]
   | .struct fields => bif memN g.eqs t then keyIntsF (keyInts g d) g fields.toList 0 else none
   | _ => none)
  | none => none
def intsA : List IntKind → List AV → Bool
 | [], [] => true
 | k :: ks, .int k' _ :: vs => kindEq k k' && intsA ks vs
 | _, _ => false
def keyG (g : G) (kt : TypeId) (d : TypeDesc) (k : AV) : Bool :=
 match d, k with
 | .struct _, .agg l => keyPlain g 100 kt (.agg l) && (match keyInts g 100 kt with | some ks => intsA ks l | none => false)
 | d, k => keyE d k
def symGet (g : G) (s : S) (t : TypeId) (m k : AV) (ok : Bool) : Sym :=
 match g.ty.get t, m with
 | some ti, .opq a =>
  (match ti.desc, ownGet s.own a with
   | .map kt et, some o => (match g.ty.get kt, g.ty.get et with
    | some tk, some te => (match te.zero with
     | some z =>
      bif o.m && keyG g kt tk.desc (unlzV s k) && Nat.beq (llen z.cells) te.size && (isAggA z || Nat.beq te.size 1) then
       let v : AV := bif isAggA z then .agg (rowAt s.nr (.lit 0) te.size 0) else .rc s.nr (.lit 0)
       some ([.d (.mget (isAggA z) o.r (unlzV s k) z.cells)], (bif ok then .tup [v, .bx (.var s.nb)] else v), pushR (pushB s))
      else none
     | none => none)
    | _, _ => none)
   | _, _ => none)
 | _, _ => none
def symSet (g : G) (s : S) (t : TypeId) (m k v : AV) : Sym :=
 match g.ty.get t, m with
 | some ti, .opq a =>
  (match ti.desc, ownGet s.own a with
   | .map kt _, some o => (match g.ty.get kt with
    | some tk => bif o.m && keyG g kt tk.desc (unlzV s k) then some ([.d (.mset o.r (unlzV s k) (unlzV s v))], undefA, { pushR s with own := { o with r := s.nr } :: ownDel s.own a }) else none
    | none => none)
   | _, _ => none)
 | _, _ => none
def symDel (g : G) (s : S) (t : TypeId) (m k : AV) : Sym :=
 match g.ty.get t, m with
 | some ti, .opq a =>
  (match ti.desc, ownGet s.own a with
   | .map kt _, some o => (match g.ty.get kt with
    | some tk => bif o.m && keyG g kt tk.desc (unlzV s k) then some ([.d (.mdel o.r (unlzV s k))], .tup [], { pushR s with own := { o with r := s.nr } :: ownDel s.own a }) else none
    | none => none)
   | _, _ => none)
 | _, _ => none
def symMap (g : G) (s : S) (o : Oper) : Sym :=
 match o.op with
 | .makeMap t none => bif memN g.smaps t then some ([.d .mnew], .opq s.nv, { pushR (pushV s) with own := { a := s.nv, r := s.nr, e := t, len := .lit 0, cap := .lit 0, m := true } :: s.own }) else none
 | _ => none
def symConv (g : G) (s : S) (t u : TypeId) (x : AV) : Sym :=
 match g.ty.get t, g.ty.get u with
 | some ti, some tu =>
  (match tu.desc, x with
   | .slice e, .sv i => (match g.ty.get e with
    | some te => (match te.desc with
     | .int .u8 => bif Nat.beq te.size 1 then some ([.d (.sbytes (.sv i))], .sl s.nv (.lit 0) (.var (nI s)) (.var (Nat.succ (nI s))), { pushR (pushI (pushI (pushV s) 0 9223372036854775807) 0 9223372036854775807) with own := { a := s.nv, r := s.nr, e := e, len := .var (nI s), cap := .var (Nat.succ (nI s)) } :: s.own }) else none
     | _ => none)
    | none => none)
   | .string, .slice id off len _ _ => (match ti.desc with
    | .slice e => (match g.ty.get e, loadC s id off len with
     | some te, some l => (match te.desc with | .int .u8 => some ([.d (.bstr (unlzL s l))], .sv s.ns, pushS s) | _ => none)
     | _, _ => none)
    | _ => none)
   | _, _ => none)
 | _, _ => none
def symH1 (g : G) (a : A) (s : S) (o : Oper) : Sym :=
 match o.op with
 | .lookup t m k ok => (match evO a s m, evO a s k with | some m, some k => symGet g s t m k ok | _, _ => none)
 | .mapUpdate t m k x => (match evO a s m, evO a s k, evO a s x with | some m, some k, some x => symSet g s t m k x | _, _, _ => none)
 | .insert t m k x => (match evO a s m, evO a s k, evO a s x with | some m, some k, some x => symSet g s t m k x | _, _, _ => none)
 | .store t x y => (match evO a s x, evO a s y with | some x, some y => symStore g s t x y | _, _ => none)
 | .makeSlice t l c => (match evO a s l, evO a s c with | some l, some c => symMake g s t l c | _, _ => none)
 | .convert t u x => (match evO a s x with | some x => symConv g s t u x | none => none)
 | .call c => (match c.callee, c.argTypes.toList, evL a s c.args.toList with
  | .builtin .append, [t, u], some [x, y] => (match symApp g s t u x y with | some r => some r | none => match symGrow g s t u x y with | some r => some r | none => match symNew g s t u x y with | some r => some r | none => match symAppV g s t u x y with | some r => some r | none => match symAppN g s t u x y with | some r => some r | none => match symAppZ g s t u x y with | some r => some r | none => symApp0 g s t u x y)
  | .builtin .delete, t :: _, some [m, k] => symDel g s t m k
  | _, _, _ => none)
 | _ => none
def symH (g : G) (a : A) (s : S) (o : Oper) : Sym :=
 match symH1 g a s o with
 | none => none
 | some _ =>
  match forceLs g (moved g a s o) s with
  | (p, s1) => (match symH1 g a s1 o with
   | some (q, v, s2) => some (p ++ q, v, s2)
   | none => none)
def frzL : List AV → List Own → List Pre × List Own
 | [], ow => ([], ow)
 | .sl a _ _ _ :: l, ow => (match ownGet ow a with
  | some o => bif o.m then frzL l ow else (match frzL l (ownDel ow a) with | (p, ow') => (.d (.frz a o.r) :: p, ow'))
  | none => frzL l ow)
 | _ :: l, ow => frzL l ow
def pubU (s : S) (off len c : Nat) : AV := .sl s.nv (.lit (Int.ofNat off)) (.lit (Int.ofNat len)) (.lit (Int.ofNat c))
def pubW (s : S) (off len : Nat) : AV := .sl s.nv (.lit (Int.ofNat off)) (.lit (Int.ofNat len)) (.var (nI s))
def pubV (g : G) (v : AV) (s : S) : List Pre × AV × S :=
 match v with
 | .slice id off len (some c) k =>
  match memoGet s.memo (.slice id off len (some c) k) with
  | some u => ([], u, s)
  | none =>
   match s.heap.get id with
   | some (.cells l _) => bif Nat.blt id big then ([.d (.pub l)], pubU s off len c, memoAdd (pushV { s with heap := Tr.set 64 s.heap id (.ro l) }) (.slice id off len (some c) k) (pubU s off len c)) else ([], v, s)
   | _ => ([], v, s)
 | .slice id off len none k =>
  match memoGet s.memo (.slice id off len none k) with
  | some u => ([], u, s)
  | none =>
   match s.heap.get id with
   | some (.row l e) => (match g.ty.get e with
    | some te => bif Nat.blt id big && (Nat.blt 1 te.size && Nat.beq k 0) then ([.d (.pubc l)], pubW s off len, memoAdd (pushI (pushV { s with heap := Tr.set 64 s.heap id (.ro l) }) 0 9223372036854775807) (.slice id off len none k) (pubW s off len)) else ([], v, s)
    | none => ([], v, s))
   | _ => ([], v, s)
 | v => ([], v, s)
def pubL (g : G) : List AV → S → List Pre × List AV × S
 | [], s => ([], [], s)
 | v :: l, s => match pubV g v s with
  | (p, u, s1) => match pubL g l s1 with
   | (q, us, s2) => (p ++ q, u :: us, s2)
def symEd (g : G) (s : S) (ins : Bool) (e : TypeId) (args : List AV) : Sym :=
 match args with
 | [.sl b off n c, .int .i64 i, y] =>
  (match ownGet s.own b, g.ty.get e with
   | some o, some te =>
    bif !o.m && isLit0 off && o.len.eqb n && o.cap.eqb c && Nat.beq o.e e && !Nat.beq te.size 0 && !Nat.beq te.bytes 0 then
     (match ins, y with
      | true, .slice id off2 1 c2 k2 =>
       (match s.heap.get id, loadC s id off2 te.size with
        | some (.cells _ _), some new =>
         bif allOne new then
          some (needLe s (.lit 1) n ++ [.d (.rtk o.r i te.size), .d (.rdrp o.r i te.size (unlzL s new)), .d (.grow s.nr (Nat.succ s.nr) (addE n (.lit 1)) te.bytes)], .sl s.nv (.lit 0) (addE n (.lit 1)) (.var (nI s)),
           { pushR (pushR (pushR (pushI (pushV s) 0 9223372036854775807))) with own := { a := s.nv, r := Nat.succ (Nat.succ s.nr), e := e, len := addE n (.lit 1), cap := .var (nI s) } :: ownDel s.own b })
         else none
        | _, _ => none)
      | false, .int .i64 j =>
       some (needEq s j (addE i (.lit 1)) ++ (needLe s (.lit 1) n ++ ([.d (.nat (addE n (.lit (-1))))] ++ [.d (.rtk o.r i te.size), .d (.rdrp o.r j te.size []), .d (.grow s.nr (Nat.succ s.nr) (.var (nI s)) te.bytes)])), .sl s.nv (.lit 0) (.var (nI s)) (.var (nI (pushI s 0 9223372036854775807))),
        { pushR (pushR (pushR (pushI (pushV (pushI s 0 9223372036854775807)) 0 9223372036854775807))) with own := { a := s.nv, r := Nat.succ (Nat.succ s.nr), e := e, len := .var (nI s), cap := .var (nI (pushI s 0 9223372036854775807)) } :: ownDel s.own b })
      | _, _ => none)
    else none
   | _, _ => none)
 | _ => none
def edCells (g : G) (s : S) (ins : Bool) (e : TypeId) (args : List AV) : List (TypeId × AV) :=
 match ins, args with
 | true, [_, _, .slice id off _ _ _] => (match g.ty.get e with
  | some te => (match loadC s id off te.size with | some l => zipTy g e l | none => [])
  | none => [])
 | _, _ => []
def symEdF (g : G) (s : S) (ins : Bool) (e : TypeId) (args : List AV) : Sym :=
 match forceLs g (edCells g s ins e args) s with
 | (p, s1) => (match symEd g s1 ins e args with
  | some (q, v, s2) => some (p ++ q, v, s2)
  | none => none)
def frzS (l : List AV) (s : S) : List Pre × S := match frzL l s.own with | (p, ow) => (p, { s with own := ow })
end Go.Proofs.YtjabmipkllkfbaaGreatDoor.Vc
namespace Go.Proofs.YtjabmipkllkfbaaGreatDoor.Vc
open Go.RowKit
theorem BE.T_iff {σ : List Int} {β : List Bool} : ∀ (c : BE) (v t : Bool), c.val σ β = some v → (c.T σ β t ↔ v = t) := by
 intro c
 induction c with
 | var i => intro v t h; simp only [BE.val] at h; simp only [BE.T, h]
 | le a b =>
  intro v t h; simp only [BE.val] at h
  split at h
  ·rename_i x y hx hy; cases h; simp only [BE.T, hx, hy]
   cases t <;> simp
  ·cases h
 | eq a b =>
  intro v t h; simp only [BE.val] at h
  split at h
  ·rename_i x y hx hy; cases h; simp only [BE.T, hx, hy]
   cases t <;> simp
  ·cases h
 | not c ih =>
  intro v t h; simp only [BE.val] at h
  split at h
  ·rename_i x hx; cases h; simp only [BE.T, ih x (!t) hx]; cases x <;> cases t <;> simp
  ·cases h
 | and c d ih1 ih2 =>
  intro v t h; simp only [BE.val] at h
  split at h
  ·rename_i x y hx hy; cases h
   cases t
   ·simp only [BE.T, cond_false, ih1 x true hx, ih2 y false hy]; cases x <;> cases y <;> simp
   ·simp only [BE.T, cond_true, ih1 x true hx, ih2 y true hy]; cases x <;> cases y <;> simp
  ·cases h
def Env.at (V : Env) (pe : PE) : Env := { V with toPE := pe }
@[simp] theorem Env.at_toPE (V : Env) (pe : PE) : (V.at pe).toPE = pe := rfl
@[simp] theorem Env.at_self (V : Env) : V.at V.toPE = V := rfl
@[simp] theorem Env.at_at (V : Env) (pe pe' : PE) : (V.at pe).at pe' = V.at pe' := rfl
@[simp] theorem Env.at_E (V : Env) (pe : PE) : (V.at pe).E = V.E := rfl
@[simp] theorem Env.at_L (V : Env) (pe : PE) : (V.at pe).L = V.L := rfl
theorem ext_at {V : Env} {pe : PE} (h : UpP V.toPE pe) : Ext V (V.at pe) := ⟨h, fun _ _ e => e, fun _ _ e => e⟩
theorem upI (pe : PE) (x : Int) : UpP pe (addI pe x) := ⟨Up.app _ _, Up.refl _, Up.refl _, Up.refl _, Up.refl _, fun _ _ h => h, rfl⟩
theorem upB (pe : PE) (x : Bool) : UpP pe (addB pe x) := ⟨Up.refl _, Up.app _ _, Up.refl _, Up.refl _, Up.refl _, fun _ _ h => h, rfl⟩
theorem upS (pe : PE) (x : List UInt8) : UpP pe (addS pe x) := ⟨Up.refl _, Up.refl _, Up.app _ _, Up.refl _, Up.refl _, fun _ _ h => h, rfl⟩
theorem upV (pe : PE) (x : Value) : UpP pe (addV pe x) := ⟨Up.refl _, Up.refl _, Up.refl _, Up.app _ _, Up.refl _, fun _ _ h => h, rfl⟩
theorem upR (pe : PE) (x : List Value) : UpP pe (addR pe x) := ⟨Up.refl _, Up.refl _, Up.refl _, Up.refl _, Up.app _ _, fun _ _ h => h, rfl⟩
section
variable {P : Program} {g : G} {V : Env} {s s' : S} {B w : World} {a : A} {A : Act}
theorem Rel.pe {pe : PE} (h : Rel P V s B w) (k : UpP V.toPE pe) (hm : pe.mem = V.mem) (hh : s'.heap = s.heap) (hk : KnowOk s'.know pe.σ)
  (hl : pe.β.length = s'.nb ∧ pe.ς.length = s'.ns ∧ pe.τ.length = s'.nv ∧ pe.ρ.length = s'.nr)
  (hmemo : ∀ c v, (c, v) ∈ s'.memo → ∃ x, c.conc (V.at pe) = some x ∧ v.conc (V.at pe) = some x) (ho : s'.own = s.own) : Rel P (V.at pe) s' B w := by
 have hx := ext_at (V := V) k
 refine ⟨hk, hl, hmemo, fun b o hb => ?_, fun b o hb => ?_, h.below, fun id b hb => ?_, fun id p hp => by rw [hh]; exact h.dom id p hp, fun id c hc => by rw [hh]; exact h.domL id c hc, fun id id' b b' p p' hb hb' => ?_, h.glob, ?_⟩
 ·have : V.mem b = some o := by rw [← hm]; exact hb
  rw [hh]; exact h.mem b o this
 ·have : V.mem b = some o := by rw [← hm]; exact hb
  rcases h.memB b o this with h1 | h1
  ·exact .inl (by show pe.mem0 b = some o; rw [k.mem0]; exact h1)
  ·exact .inr h1
 ·rw [hh] at hb
  obtain ⟨p, h1, h2, h3, h4⟩ := h.blk id b hb
  exact ⟨p, h1, BlkO_mono hx h2, h3, fun e => (h4 e).imp (fun k => k) fun ⟨ob, k'⟩ => ⟨ob, by show pe.mem p.1 = some ob; rw [hm]; exact k'⟩⟩
 ·rw [hh] at hb hb'; exact h.inj id id' b b' p p' hb hb'
 ·rw [ho, hh]
  exact h.own.keep k (fun b o _ hb hmb ha => ⟨by show pe.mem b = none; rw [hm]; exact hmb, hb, ha⟩)
theorem memo_up {pe : PE} (h : Rel P V s B w) (k : UpP V.toPE pe) : ∀ c v, (c, v) ∈ s.memo → ∃ x, c.conc (V.at pe) = some x ∧ v.conc (V.at pe) = some x := fun c v hm => by
 obtain ⟨x, h1, h2⟩ := h.memo c v hm
 exact ⟨x, conc_mono (ext_at k) _ _ h1, conc_mono (ext_at k) _ _ h2⟩
theorem know_up {K : Know} {σ σ' : List Int} (h : KnowOk K σ) (k : Up σ σ') {r : List (Int × Int)} (hlen : K.rng.length + r.length = σ'.length) (hr : ∀ i q, lget r i = some q → ∃ z, lget σ' (K.rng.length + i) = some z ∧ q.1 ≤ z ∧ z ≤ q.2) :
  KnowOk { K with rng := K.rng ++ r } σ' := by
 refine ⟨by simp [hlen], fun i q hq => ?_, fun a b t hm => ?_, fun a b t hm => ?_⟩
 ·simp only [lget_eq] at hq
  rcases Nat.lt_or_ge i K.rng.length with hi | hi
  ·rw [List.getElem?_append_left hi, ← lget_eq] at hq
   obtain ⟨z, h1, h2⟩ := h.rng i q hq
   exact ⟨z, k _ _ h1, h2⟩
  ·rw [List.getElem?_append_right hi, ← lget_eq] at hq
   obtain ⟨z, h1, h2⟩ := hr _ q hq
   rw [show K.rng.length + (i - K.rng.length) = i by omega] at h1
   exact ⟨z, h1, h2⟩
 ·obtain ⟨x, y, h1, h2, h3⟩ := h.le a b t hm
  exact ⟨x, y, IE.val_up k _ _ h1, IE.val_up k _ _ h2, h3⟩
 ·obtain ⟨x, y, h1, h2, h3⟩ := h.eq a b t hm
  exact ⟨x, y, IE.val_up k _ _ h1, IE.val_up k _ _ h2, h3⟩
theorem lget_last {α : Type} (l : List α) (x : α) : lget (l ++ [x]) l.length = some x := by rw [lget_eq]; simp
theorem relI (h : Rel P V s B w) {x lo hi : Int} (h1 : lo ≤ x) (h2 : x ≤ hi) : Rel P (V.at (addI V.toPE x)) (pushI s lo hi) B w ∧ (IE.var (nI s)).val (addI V.toPE x).σ = some x := by
 have hn : nI s = V.σ.length := by unfold nI; rw [llen_eq]; exact h.know.len
 have hv : (IE.var (nI s)).val (addI V.toPE x).σ = some x := by
  show lget (V.σ ++ [x]) (nI s) = some x
  rw [hn]; exact lget_last _ _
 refine ⟨h.pe (upI _ x) rfl rfl ?_ h.lens (fun c v hm => memo_up h (upI _ x) c v hm) rfl, hv⟩
 refine know_up h.know (Up.app _ _) (by simp [addI, h.know.len]) (fun i q hq => ?_)
 cases i with
 | zero => simp [lget] at hq; subst hq; exact ⟨x, by rw [Nat.add_zero, h.know.len]; exact lget_last _ _, h1, h2⟩
 | succ i => simp [lget] at hq
theorem relB (h : Rel P V s B w) (x : Bool) : Rel P (V.at (addB V.toPE x)) (pushB s) B w ∧ (BE.var s.nb).val (addB V.toPE x).σ (addB V.toPE x).β = some x := by
 obtain ⟨l1, l2, l3, l4⟩ := h.lens
 refine ⟨h.pe (upB _ x) rfl rfl h.know ⟨by simp [addB, pushB, l1], l2, l3, l4⟩ (fun c v hm => memo_up h (upB _ x) c v hm) rfl, ?_⟩
 show lget (V.β ++ [x]) s.nb = some x
 rw [← l1]; exact lget_last _ _
theorem relS (h : Rel P V s B w) (x : List UInt8) : Rel P (V.at (addS V.toPE x)) (pushS s) B w ∧ lget (addS V.toPE x).ς s.ns = some x := by
 obtain ⟨l1, l2, l3, l4⟩ := h.lens
 refine ⟨h.pe (upS _ x) rfl rfl h.know ⟨l1, by simp [addS, pushS, l2], l3, l4⟩ (fun c v hm => memo_up h (upS _ x) c v hm) rfl, ?_⟩
 show lget (V.ς ++ [x]) s.ns = some x
 rw [← l2]; exact lget_last _ _
theorem relV (h : Rel P V s B w) (x : Value) : Rel P (V.at (addV V.toPE x)) (pushV s) B w ∧ lget (addV V.toPE x).τ s.nv = some x := by
 obtain ⟨l1, l2, l3, l4⟩ := h.lens
 refine ⟨h.pe (upV _ x) rfl rfl h.know ⟨l1, l2, by simp [addV, pushV, l3], l4⟩ (fun c v hm => memo_up h (upV _ x) c v hm) rfl, ?_⟩
 show lget (V.τ ++ [x]) s.nv = some x
 rw [← l3]; exact lget_last _ _
theorem relR (h : Rel P V s B w) (x : List Value) : Rel P (V.at (addR V.toPE x)) (pushR s) B w ∧ lget (addR V.toPE x).ρ s.nr = some x := by
 obtain ⟨l1, l2, l3, l4⟩ := h.lens
 refine ⟨h.pe (upR _ x) rfl rfl h.know ⟨l1, l2, l3, by simp [addR, pushR, l4]⟩ (fun c v hm => memo_up h (upR _ x) c v hm) rfl, ?_⟩
 show lget (V.ρ ++ [x]) s.nr = some x
 rw [← l4]; exact lget_last _ _
theorem relMemo (h : Rel P V s B w) {c v : AV} {x : Value} (h1 : c.conc V = some x) (h2 : v.conc V = some x) : Rel P V (memoAdd s c v) B w :=
 ⟨h.know, h.lens, fun c' v' hm => by
  cases hm with
  | head => exact ⟨x, h1, h2⟩
  | tail _ hm => exact h.memo c' v' hm, h.mem, h.memB, h.below, h.blk, h.dom, h.domL, h.inj, h.glob, h.own⟩
theorem memoGet_mem : ∀ {l : List (AV × AV)} {x u : AV}, memoGet l x = some u → (x, u) ∈ l := by
 intro l
 induction l with
 | nil => intro x u h; cases h
 | cons p l ih =>
  intro x u h
  obtain ⟨c, v⟩ := p
  simp only [memoGet] at h
  cases he : AV.eqb c x with
  | true => rw [he] at h; cases h; rw [eqb_eq _ _ he]; exact List.mem_cons_self ..
  | false => rw [he] at h; exact List.mem_cons_of_mem _ (ih h)
theorem lazV_conc {v : AV} (h : isLazy v = true) : lazV V.toPE v = v.conc V := by
 cases v <;> first | rfl | (simp [isLazy] at h)
theorem strV_conc {v : AV} {l : List UInt8} (h : strV V.toPE v = some l) : v.conc V = some (.string ⟨l.toArray⟩) := by
 cases v <;> simp [strV] at h
 ·subst h; rfl
 ·rename_i i; simp only [AV.conc]; rw [h]
def Yields (P : Program) (B w : World) (V : Env) (s : S) (p : List Pre) (s' : S) (R : Env → Prop) : Prop :=
 ∀ K : PE → Prop, preSat p V.toPE K → ∃ pe, UpP V.toPE pe ∧ K pe ∧ Rel P (V.at pe) s' B w ∧ R (V.at pe)
theorem Yields.nil {R : Env → Prop} (h : Rel P V s B w) (hR : R V) : Yields P B w V s [] s R := fun K hK => ⟨V.toPE, UpP.refl _, hK, h, hR⟩
theorem preSat_split (q : List Pre) (K : PE → Prop) : ∀ (p : List Pre) (pe : PE), preSat (p ++ q) pe K → preSat p pe (fun pe => preSat q pe K) := by
 intro p
 induction p with
 | nil => intro pe h; exact h
 | cons x p ih =>
  intro pe h
  cases x with
  | need c =>
   simp only [List.cons_append, preSat, Pre.sat] at h ⊢
   split at h
   ·rename_i b hb; exact ⟨h.1, ih pe h.2⟩
   ·exact h
  | d d =>
   simp only [List.cons_append, preSat, Pre.sat] at h ⊢
   have mono : ∀ {K1 K2 : PE → Prop} (d : D) (pe : PE), (∀ pe, K1 pe → K2 pe) → d.sat pe K1 → d.sat pe K2 := by
    intro K1 K2 d pe hk h
    cases d <;> simp only [D.sat] at h ⊢
    case openI => obtain ⟨x, h1, h2, h3⟩ := h; exact ⟨x, h1, h2, hk _ h3⟩
    case openB => obtain ⟨x, h1, h2⟩ := h; exact ⟨x, h1, hk _ h2⟩
    case openS => obtain ⟨x, h1, h2⟩ := h; exact ⟨x, h1, hk _ h2⟩
    case openV => obtain ⟨x, h1, h2⟩ := h; exact ⟨x, h1, hk _ h2⟩
    case openSl => obtain ⟨p, n, c, h1, h2, h3⟩ := h; exact ⟨p, n, c, h1, h2, hk _ h3⟩
    case has => split at h; exact ⟨h.1, hk _ h.2⟩; exact h
    case nn => split at h; exact ⟨h.1, hk _ h.2⟩; exact h
    case arith => split at h; exact ⟨h.1, fun z hz => ⟨(h.2 z hz).1, hk _ (h.2 z hz).2⟩⟩; exact h
    case wrap => split at h; exact fun z h1 h2 h3 => hk _ (h z h1 h2 h3); exact h
    case cut => split at h; (obtain ⟨z, h1, h2, h3⟩ := h; exact ⟨z, h1, h2, hk _ h3⟩); exact h
    case nat => split at h; (obtain ⟨z, h1, h2, h3⟩ := h; exact ⟨z, h1, h2, hk _ h3⟩); exact h
    case pick => split at h; exact fun z h1 => ⟨(h z h1).1, hk _ (h z h1).2⟩; exact h
    case mm => split at h; exact fun z h1 => ⟨(h z h1).1, hk _ (h z h1).2⟩; exact h
    case seq => split at h; exact fun z h1 => hk _ (h z h1); exact h
    case nul => split at h; exact fun z h1 => hk _ (h z h1); exact h
    case slen => split at h; exact fun z h1 => ⟨(h z h1).1, (h z h1).2.1, hk _ (h z h1).2.2⟩; exact h
    case sidx => split at h; exact ⟨h.1, fun z h1 h2 h3 => hk _ (h.2 z h1 h2 h3)⟩; exact h
    case scat => split at h; exact ⟨h.1, fun z h1 => hk _ (h.2 z h1)⟩; exact h
    case ssub => split at h; exact ⟨h.1, fun z h1 => hk _ (h.2 z h1)⟩; exact h
    case rhas => split at h; exact ⟨h.1, hk _ h.2⟩; exact h
    case rset => split at h; exact ⟨h.1, fun z h1 => hk _ (h.2 z h1)⟩; exact h
    case mk => split at h; exact ⟨h.1, fun p z h1 => hk _ (h.2 p z h1)⟩; exact h
    case rapp => split at h; exact ⟨h.1, fun p c z h1 h2 h3 => hk _ (h.2 p c z h1 h2 h3)⟩; exact h
    case frz => split at h; exact fun m h1 h2 => hk _ (h m h1 h2); exact h
    case pub => split at h; exact fun q m h1 h2 => hk _ (h q m h1 h2); exact h
    case pubc => split at h; exact fun q c m h1 h2 h3 => hk _ (h q c m h1 h2 h3); exact h
    case mget => split at h; (obtain ⟨f, h1, h2⟩ := h; exact ⟨f, h1, fun b hb => (h2 b hb).elim fun l' hl => ⟨l', hl.1, hk _ hl.2⟩⟩); exact h
    case mset => split at h; (obtain ⟨f, h1, h2⟩ := h; exact ⟨f, h1, fun l h3 => hk _ (h2 l h3)⟩); exact h
    case mdel => split at h; (obtain ⟨f, h1, h2⟩ := h; exact ⟨f, h1, fun l h3 => hk _ (h2 l h3)⟩); exact h
    case mnew => exact fun p => hk _ (h p)
    case sbytes => split at h; exact ⟨h.1, fun q n c l h1 h2 h3 h4 => hk _ (h.2 q n c l h1 h2 h3 h4)⟩; exact h
    case mrow => split at h; (obtain ⟨l, h1, h2, h3⟩ := h; exact ⟨l, h1, h2, hk _ h3⟩); exact h
    case grow => split at h; exact ⟨h.1, fun q c l h1 h2 h3 h4 => hk _ (h.2 q c l h1 h2 h3 h4)⟩; exact h
    case growk => split at h; exact ⟨h.1, fun q c l h1 h2 h3 h4 => hk _ (h.2 q c l h1 h2 h3 h4)⟩; exact h
    case zn => split at h; exact ⟨h.1, hk _ h.2⟩; exact h
    case rtk => split at h; exact ⟨h.1, fun z h1 => hk _ (h.2 z h1)⟩; exact h
    case zrow => split at h; exact ⟨h.1, fun z h1 => hk _ (h.2 z h1)⟩; exact h
    case rdrp => split at h; exact ⟨h.1, fun z h1 => hk _ (h.2 z h1)⟩; exact h
    case bstr => split at h; (obtain ⟨ns, h1, h2⟩ := h; exact ⟨ns, h1, fun x h3 => hk _ (h2 x h3)⟩); exact h
   exact mono d pe (fun pe h => ih pe h) h
theorem Yields.app {p q : List Pre} {s1 s2 : S} {R1 R2 : Env → Prop} (h : Yields P B w V s p s1 R1)
  (k : ∀ pe, UpP V.toPE pe → Rel P (V.at pe) s1 B w → R1 (V.at pe) → Yields P B w (V.at pe) s1 q s2 R2) : Yields P B w V s (p ++ q) s2 R2 := by
 intro K hK
 obtain ⟨pe1, u1, k1, r1, r2⟩ := h _ (preSat_split q K p _ hK)
 obtain ⟨pe2, u2, k2, r3, r4⟩ := k pe1 u1 r1 r2 K k1
 exact ⟨pe2, u1.trans u2, k2, r3, r4⟩
theorem Yields.mono {p : List Pre} {R R' : Env → Prop} (h : Yields P B w V s p s' R) (k : ∀ pe, UpP V.toPE pe → R (V.at pe) → R' (V.at pe)) : Yields P B w V s p s' R' := fun K hK => by
 obtain ⟨pe, h1, h2, h3, h4⟩ := h K hK
 exact ⟨pe, h1, h2, h3, k pe h1 h4⟩
theorem Yields.need (h : Rel P V s B w) (c : BE) : Yields P B w V s [.need c] s (fun V' => c.val V'.σ V'.β = some true) := fun K hK => by
 simp only [preSat, Pre.sat] at hK
 split at hK
 ·rename_i b hb
  have := (BE.T_iff c b true hb).1 hK.1
  subst this
  exact ⟨V.toPE, UpP.refl _, hK.2, h, hb⟩
 ·exact hK.elim
theorem needLe_ok (h : Rel P V s B w) {x y : IE} {p q : Int} (hx : x.val V.σ = some p) (hy : y.val V.σ = some q) : Yields P B w V s (needLe s x y) s (fun _ => p ≤ q) := by
 unfold needLe
 split
 ·rename_i hl
  have := leE_ok h.know _ _ _ hl hx hy
  exact Yields.nil h (by simpa using this)
 ·refine (Yields.need h _).mono (fun pe hu hc => ?_)
  have h1 := IE.val_up hu.σ _ _ hx; have h2 := IE.val_up hu.σ _ _ hy
  simp only [BE.val, Env.at_toPE, h1, h2] at hc
  simpa using hc
theorem needLt_ok (h : Rel P V s B w) {x y : IE} {p q : Int} (hx : x.val V.σ = some p) (hy : y.val V.σ = some q) : Yields P B w V s (needLt s x y) s (fun _ => p < q) := by
 unfold needLt
 split
 ·rename_i hl
  have := leE_ok h.know _ _ _ hl hy hx
  refine Yields.nil h ?_
  simp only [decide_eq_false_iff_not] at this; omega
 ·refine (Yields.need h _).mono (fun pe hu hc => ?_)
  have h1 := IE.val_up hu.σ _ _ hx; have h2 := IE.val_up hu.σ _ _ hy
  simp only [BE.val, Env.at_toPE, h1, h2, Option.some.injEq, Bool.not_eq_true', decide_eq_false_iff_not] at hc
  omega
theorem inKind_ok (h : Rel P V s B w) {e : IE} {z : Int} (k : IntKind) (he : e.val V.σ = some z) : Yields P B w V s (inKind s k e) s (fun _ => k.min ≤ z ∧ z ≤ k.max) := by
 unfold inKind
 refine (needLe_ok h (x := .lit k.min) rfl he).app (fun pe hu h1 r1 => ?_)
 refine (needLe_ok h1 (x := e) (y := .lit k.max) (IE.val_up hu.σ _ _ he) rfl).mono (fun pe' hu' r2 => ⟨r1, r2⟩)
theorem openI_ok (h : Rel P V s B w) {v : AV} {X : Value} (hl : isLazy v = true) (hv : v.conc V = some X) (k : IntKind) :
  Yields P B w V s [.d (.openI k v)] (memoAdd (pushI s k.min k.max) v (.int k (.var (nI s)))) (fun V' => (AV.int k (.var (nI s))).conc V' = some X) := fun K hK => by
 simp only [preSat, Pre.sat, D.sat, lazV_conc hl, hv, Option.some.injEq] at hK
 obtain ⟨x, rfl, h1, h2⟩ := hK
 obtain ⟨r1, r2⟩ := relI h h1.1 h1.2
 have hi : (AV.int k (.var (nI s))).conc (V.at (addI V.toPE x)) = some (.int k x) := int_mk r2
 exact ⟨_, upI _ x, h2, relMemo r1 (conc_mono (ext_at (upI _ x)) _ _ hv) hi, hi⟩
theorem openB_ok (h : Rel P V s B w) {v : AV} {X : Value} (hl : isLazy v = true) (hv : v.conc V = some X) :
  Yields P B w V s [.d (.openB v)] (memoAdd (pushB s) v (.bx (.var s.nb))) (fun V' => (AV.bx (.var s.nb)).conc V' = some X) := fun K hK => by
 simp only [preSat, Pre.sat, D.sat, lazV_conc hl, hv, Option.some.injEq] at hK
 obtain ⟨x, rfl, h2⟩ := hK
 obtain ⟨r1, r2⟩ := relB h x
 have hi : (AV.bx (.var s.nb)).conc (V.at (addB V.toPE x)) = some (.bool x) := bx_mk r2
 exact ⟨_, upB _ x, h2, relMemo r1 (conc_mono (ext_at (upB _ x)) _ _ hv) hi, hi⟩
theorem openS_ok (h : Rel P V s B w) {v : AV} {X : Value} (hl : isLazy v = true) (hv : v.conc V = some X) :
  Yields P B w V s [.d (.openS v)] (memoAdd (pushS s) v (.sv s.ns)) (fun V' => (AV.sv s.ns).conc V' = some X) := fun K hK => by
 simp only [preSat, Pre.sat, D.sat, lazV_conc hl, hv, Option.some.injEq] at hK
 obtain ⟨x, rfl, h2⟩ := hK
 obtain ⟨r1, r2⟩ := relS h x
 have hi : (AV.sv s.ns).conc (V.at (addS V.toPE x)) = some (.string ⟨x.toArray⟩) := by
  simp only [AV.conc]; rw [show (V.at (addS V.toPE x)).ς = (addS V.toPE x).ς from rfl, r2]
 exact ⟨_, upS _ x, h2, relMemo r1 (conc_mono (ext_at (upS _ x)) _ _ hv) hi, hi⟩
theorem openSl_ok (h : Rel P V s B w) {v : AV} {X : Value} (hl : isLazy v = true) (hv : v.conc V = some X) :
  Yields P B w V s [.d (.openSl v)] (memoAdd (pushI (pushI (pushV s) 0 9223372036854775807) 0 9223372036854775807) v (.sl s.nv (.lit 0) (.var (nI s)) (.var (Nat.succ (nI s))))) (fun V' => (AV.sl s.nv (.lit 0) (.var (nI s)) (.var (Nat.succ (nI s)))).conc V' = some X) := fun K hK => by
 simp only [preSat, Pre.sat, D.sat, lazV_conc hl, hv, Option.some.injEq] at hK
 obtain ⟨q, n, c, rfl, ⟨n1, n2⟩, h2⟩ := hK
 obtain ⟨r1, e1⟩ := relV h (.pointer q)
 obtain ⟨r2, e2⟩ := relI r1 (x := (n : Int)) (lo := 0) (hi := 9223372036854775807) (by omega) (by omega)
 obtain ⟨r3, e3⟩ := relI r2 (x := (c : Int)) (lo := 0) (hi := 9223372036854775807) (by omega) (by omega)
 simp only [Env.at_at, Env.at_toPE] at r2 r3 e2 e3
 have n0 : nI (pushV s) = nI s := rfl
 have n1' : nI (pushI (pushV s) 0 9223372036854775807) = Nat.succ (nI s) := by simp [nI, pushI, pushV, llen_eq]
 rw [n0] at e2; rw [n1'] at e3
 have hu1 := upV V.toPE (.pointer q)
 have hu2 := upI (addV V.toPE (.pointer q)) (n : Int)
 have hu3 := upI (addI (addV V.toPE (.pointer q)) (n : Int)) (c : Int)
 have hu := (hu1.trans hu2).trans hu3
 have hi : (AV.sl s.nv (.lit 0) (.var (nI s)) (.var (Nat.succ (nI s)))).conc (V.at (addI (addI (addV V.toPE (.pointer q)) n) c)) = some (.slice q n c) := by
  have p1 : placeV (addI (addI (addV V.toPE (.pointer q)) n) c).τ s.nv = some q := by
   unfold placeV
   rw [show (addI (addI (addV V.toPE (.pointer q)) n) c).τ = (addV V.toPE (.pointer q)).τ from rfl, e1]
  have p2 := natV_of (IE.val_up hu3.σ _ _ e2) (by omega)
  have p3 := natV_of e3 (by omega)
  have p4 : natV (addI (addI (addV V.toPE (.pointer q)) n) c).σ (.lit 0) = some 0 := rfl
  simp only [AV.conc, xsV, Env.at_toPE, p1, p2, p3, p4, Int.toNat_natCast]
  congr 2
  cases q <;> simp [Addr.add]
 exact ⟨_, hu, h2, relMemo r3 (conc_mono (ext_at hu) _ _ hv) hi, hi⟩
theorem force_ok (hG : GOk P g) (h : Rel P V s B w) {t : TypeId} {v u : AV} {X : Value} {p : List Pre} (hf : force g t v s = some (p, u, s')) (hv : v.conc V = some X) :
  Yields P B w V s p s' (fun V' => u.conc V' = some X) := by
 unfold force at hf
 cases hl : isLazy v with
 | false => rw [hl] at hf; cases hf; exact Yields.nil h hv
 | true =>
  rw [hl] at hf; simp only [cond_true] at hf
  split at hf
  ·rename_i u' hm; cases hf
   obtain ⟨x, h1, h2⟩ := h.memo _ _ (memoGet_mem hm)
   rw [hv] at h1; cases h1
   exact Yields.nil h h2
  ·split at hf
   ·split at hf
    ·cases hf; exact openI_ok h hl hv _
    ·cases hf; exact openB_ok h hl hv
    ·cases hf; exact openS_ok h hl hv
    ·cases hf; exact openSl_ok h hl hv
    ·cases hf; exact Yields.nil h hv
   ·cases hf
end
end Go.Proofs.YtjabmipkllkfbaaGreatDoor.Vc
namespace Go.Proofs.YtjabmipkllkfbaaGreatDoor.Vc
open Go.RowKit
section
variable {P : Program} {g : G} {V : Env} {s s' : S} {B w : World} {a : A} {A : Act}
theorem notB_ok {v : AV} {b : Bool} (h : v.conc V = some (.bool b)) (hv : (∃ c, v = .bool c) ∨ ∃ c, v = .bx c) : (notB v).conc V = some (.bool !b) := by
 rcases hv with ⟨c, rfl⟩ | ⟨c, rfl⟩
 ·simp only [AV.conc] at h; cases h; rfl
 ·obtain ⟨z, hz, e⟩ := conc_bx h
  cases e
  cases c with
  | not d =>
   simp only [BE.val] at hz
   split at hz
   ·rename_i x hx; cases hz
    show (AV.bx d).conc V = _
    rw [bx_mk hx]; simp
   ·cases hz
  | _ => exact bx_mk (by simp only [BE.val] at hz ⊢; rw [hz])
theorem leB_ok (h : Rel P V s B w) {x y : IE} {p q : Int} (hx : x.val V.σ = some p) (hy : y.val V.σ = some q) : (leB s x y).conc V = some (.bool (decide (p ≤ q))) ∧ ((∃ c, leB s x y = .bool c) ∨ ∃ c, leB s x y = .bx c) := by
 unfold leB
 split
 ·rename_i t ht
  rw [leE_ok h.know _ _ _ ht hx hy]; exact ⟨rfl, .inl ⟨_, rfl⟩⟩
 ·exact ⟨bx_mk (by simp only [BE.val, hx, hy]), .inr ⟨_, rfl⟩⟩
theorem eqB_ok (h : Rel P V s B w) {x y : IE} {p q : Int} (hx : x.val V.σ = some p) (hy : y.val V.σ = some q) : (eqB s x y).conc V = some (.bool (decide (p = q))) ∧ ((∃ c, eqB s x y = .bool c) ∨ ∃ c, eqB s x y = .bx c) := by
 unfold eqB
 split
 ·rename_i t ht
  rw [eqE_ok h.know _ _ _ ht hx hy]; exact ⟨rfl, .inl ⟨_, rfl⟩⟩
 ·exact ⟨bx_mk (by simp only [BE.val, hx, hy]), .inr ⟨_, rfl⟩⟩
theorem mulE_val {σ : List Int} {x y : IE} {p q : Int} (hx : x.val σ = some p) (hy : y.val σ = some q) : (mulE x y).val σ = some (p * q) := by
 unfold mulE
 split
 ·simp only [IE.val, Option.some.injEq] at *; rw [hx, hy]
 ·rename_i a b _
  simp only [IE.val, Option.some.injEq] at hy; subst hy
  cases c : ieq b 1 with
  | true => rw [ieq_eq] at c; simp at c; subst c; simp [hx]
  | false => simp only [cond_false, IE.val, hx]
 ·simp only [IE.val, hx, hy]
theorem pushArith_ok (h : Rel P V s B w) {op : BinOp} {k k' : IntKind} {x y : IE} {p q : Int} (hx : x.val V.σ = some p) (hy : y.val V.σ = some q) (t : TypeId) {l : List Pre} {v : AV} (hp : pushArith s op k x y = some (l, v, s')) (hk : k' = k ∨ op = .shl ∨ op = .shr) :
  Yields P B w V s l s' (fun V' => ∃ R, v.conc V' = some R ∧ ∀ w, (binOp op t (.int k p) (.int k' q)).run P w = .ok R w) := by
 unfold pushArith at hp; cases hp
 intro K hK
 simp only [preSat, Pre.sat, D.sat, hx, hy] at hK
 obtain ⟨h1, h2⟩ := hK
 obtain ⟨h3, h4⟩ := h2 _ rfl
 obtain ⟨r1, r2⟩ := relI h h3.1 h3.2
 refine ⟨_, upI _ _, h4, r1, _, int_mk r2, fun w => ?_⟩
 cases op <;> simp only [arithP] at h1 <;> try (exact h1.elim)
 case shl => simp [binOp, Op.shift, arithV]; intro h0; omega
 case shr => simp [binOp, Op.shift, arithV]; intro h0; omega
 all_goals
  (have hk' : k' = k := by rcases hk with h | h | h <;> first | exact h | cases h
   subst hk'
   first
    | (simp [binOp, Op.intArith, arithV]; done)
    | (simp [binOp, Op.intDiv, arithV, h1]; done)
    | (simp [binOp, Op.intBits, arithV]; done))
theorem symInt_ok (h : Rel P V s B w) {op : BinOp} {k : IntKind} {x y : IE} {p q : Int} (hx : x.val V.σ = some p) (hy : y.val V.σ = some q) (t : TypeId) {l : List Pre} {v : AV} (hs : symInt s op k x y = some (l, v, s')) :
  Yields P B w V s l s' (fun V' => ∃ R, v.conc V' = some R ∧ ∀ w, (binOp op t (.int k p) (.int k q)).run P w = .ok R w) := by
 have wrapD : ∀ {e : IE} {z : Int}, e.val V.σ = some z → (∀ w, (binOp op t (.int k p) (.int k q)).run P w = .ok (.int k (k.wrap z)) w) → k.min ≤ k.wrap z ∧ k.wrap z ≤ k.max →
   Yields P B w V s [.d (.wrap k e)] (pushI s k.min k.max) (fun V' => ∃ R, (AV.int k (.var (nI s))).conc V' = some R ∧ ∀ w, (binOp op t (.int k p) (.int k q)).run P w = .ok R w) := by
  intro e z he hr hb K hK
  simp only [preSat, Pre.sat, D.sat, he] at hK
  obtain ⟨r1, r2⟩ := relI h hb.1 hb.2
  exact ⟨_, upI _ _, hK _ rfl hb.1 hb.2, r1, _, int_mk r2, hr⟩
 have wr : ∀ z : Int, k.min ≤ k.wrap z ∧ k.wrap z ≤ k.max := fun z => by
  cases k <;> simp [IntKind.min, IntKind.max, IntKind.wrap, IntKind.signed, IntKind.bits] <;> (try split) <;> omega
 cases op <;> simp only [symInt] at hs <;> try (cases hs; done)
 case add =>
  have e := addE_val hx hy
  cases c : k.signed with
  | true =>
   rw [c] at hs; cases hs
   refine (inKind_ok h k e).mono (fun pe hu hr => ⟨.int k (p + q), int_mk (IE.val_up hu.σ _ _ e), fun w => ?_⟩)
   simp [binOp, Op.intArith, wrap_id hr.1 hr.2]
  | false => rw [c] at hs; cases hs; exact wrapD e (fun w => by simp [binOp, Op.intArith]) (wr _)
 case sub =>
  have e := subE_val hx hy
  cases c : k.signed with
  | true =>
   rw [c] at hs; cases hs
   refine (inKind_ok h k e).mono (fun pe hu hr => ⟨.int k (p - q), int_mk (IE.val_up hu.σ _ _ e), fun w => ?_⟩)
   simp [binOp, Op.intArith, wrap_id hr.1 hr.2]
  | false => rw [c] at hs; cases hs; exact wrapD e (fun w => by simp [binOp, Op.intArith]) (wr _)
 case mul =>
  have e := mulE_val hx hy
  cases c : k.signed with
  | true =>
   rw [c] at hs; cases hs
   refine (inKind_ok h k e).mono (fun pe hu hr => ⟨.int k (p * q), int_mk (IE.val_up hu.σ _ _ e), fun w => ?_⟩)
   simp [binOp, Op.intArith, wrap_id hr.1 hr.2]
  | false => rw [c] at hs; exact pushArith_ok h hx hy t hs (.inl rfl)
 case quo => exact pushArith_ok h hx hy t hs (.inl rfl)
 case rem => exact pushArith_ok h hx hy t hs (.inl rfl)
 case and => exact pushArith_ok h hx hy t hs (.inl rfl)
 case or => exact pushArith_ok h hx hy t hs (.inl rfl)
 case xor => exact pushArith_ok h hx hy t hs (.inl rfl)
 case andNot => exact pushArith_ok h hx hy t hs (.inl rfl)
 case eql =>
  cases hs
  refine Yields.nil h ⟨_, (eqB_ok h hx hy).1, fun w => ?_⟩
  by_cases hh : p = q <;> simp [binOp, Op.intCmp, hh]
 case neq =>
  cases hs
  refine Yields.nil h ⟨_, notB_ok (eqB_ok h hx hy).1 (eqB_ok h hx hy).2, fun w => ?_⟩
  by_cases hh : p = q <;> simp [binOp, Op.intCmp, hh]
 case leq =>
  cases hs
  exact Yields.nil h ⟨_, (leB_ok h hx hy).1, fun w => by simp [binOp, Op.intCmp]⟩
 case gtr =>
  cases hs
  refine Yields.nil h ⟨_, notB_ok (leB_ok h hx hy).1 (leB_ok h hx hy).2, fun w => ?_⟩
  by_cases hh : p ≤ q <;> simp [binOp, Op.intCmp, hh] <;> omega
 case geq =>
  cases hs
  exact Yields.nil h ⟨_, (leB_ok h hy hx).1, fun w => by simp [binOp, Op.intCmp]⟩
 case lss =>
  cases hs
  refine Yields.nil h ⟨_, notB_ok (leB_ok h hy hx).1 (leB_ok h hy hx).2, fun w => ?_⟩
  by_cases hh : q ≤ p <;> simp [binOp, Op.intCmp, hh] <;> omega
theorem isStr_ok {v : AV} {X : Value} (h : isStr v = true) (hv : v.conc V = some X) : ∃ l, strV V.toPE v = some l ∧ X = .string ⟨l.toArray⟩ := by
 cases v <;> simp [isStr] at h
 ·simp only [AV.conc] at hv; cases hv; exact ⟨_, rfl, rfl⟩
 ·obtain ⟨l, h1, h2⟩ := conc_sv hv; exact ⟨l, h1, h2⟩
theorem seq_ok (h : Rel P V s B w) {x y : AV} {p q : List UInt8} (hx : strV V.toPE x = some p) (hy : strV V.toPE y = some q) :
  Yields P B w V s [.d (.seq x y)] (pushB s) (fun V' => (AV.bx (.var s.nb)).conc V' = some (.bool (decide (p = q)))) := fun K hK => by
 simp only [preSat, Pre.sat, D.sat, hx, hy] at hK
 obtain ⟨r1, r2⟩ := relB h (decide (p = q))
 exact ⟨_, upB _ _, hK _ rfl, r1, bx_mk r2⟩
theorem run_eqIn_nil (w : World) (d : Nat) (t e : TypeId) (a : Option Addr) (n c n' c' : Nat) (h : P.underlying t = some (.slice e)) :
  (Op.equalIn (d + 1) t (.slice a n c) (.slice none n' c')).run P w = .ok a.isNone w := by
 cases a <;> simp [Op.equalIn, run_underlying h]
theorem symNil_ok (hG : GOk P g) (h : Rel P V s B w) {t : TypeId} {a : Nat} {off len cap : IE} {X : Value} {neg : Bool} {v : AV} {l : List Pre} (hX : (AV.sl a off len cap).conc V = some X) (hs : symNil g s t a neg = some (l, v, s')) :
  Yields P B w V s l s' (fun V' => ∃ (p : Option Addr) (e : TypeId) (q : Option Addr) (n c : Nat), v.conc V' = some (.bool (bif neg then !decide (p = none) else decide (p = none))) ∧ X = .slice q n c ∧ q.isNone = decide (p = none) ∧ P.underlying t = some (.slice e)) := by
 unfold symNil at hs
 split at hs
 ·rename_i ti hti
  have hu := (hG.ty _ _ hti).desc
  split at hs
  ·rename_i e hd
   rw [hd] at hu
   cases hs
   obtain ⟨p, o, n, c, q1, q2, q3, q4, rfl⟩ := xsV_some hX
   intro K hK
   simp only [preSat, Pre.sat, D.sat, q1] at hK
   obtain ⟨r1, r2⟩ := relB h (decide (p = none))
   refine ⟨_, upB _ _, hK _ rfl, r1, p, e, _, n, c, ?_, rfl, by cases p <;> simp, hu⟩
   cases neg
   ·exact bx_mk r2
   ·exact notB_ok (v := .bx (.var s.nb)) (bx_mk r2) (.inr ⟨_, rfl⟩)
  ·cases hs
 ·cases hs
theorem symStr_ok (h : Rel P V s B w) {op : BinOp} {x y v : AV} {p q : List UInt8} (hx : strV V.toPE x = some p) (hy : strV V.toPE y = some q) (t : TypeId) {l : List Pre} (hs : symStr s op x y = some (l, v, s')) :
  Yields P B w V s l s' (fun V' => ∃ R, v.conc V' = some R ∧ ∀ w, (binOp op t (.string ⟨p.toArray⟩) (.string ⟨q.toArray⟩)).run P w = .ok R w) := by
 have e1 := toList_mk p
 have e2 := toList_mk q
 have e3 : (p == q) = decide (p = q) := by rw [Bool.eq_iff_iff]; simp
 cases op <;> simp only [symStr] at hs <;> try (cases hs; done)
 case add =>
  cases hs
  intro K hK
  simp only [preSat, Pre.sat, D.sat, hx, hy] at hK
  obtain ⟨r1, r2⟩ := relS h (p ++ q)
  refine ⟨_, upS _ _, hK.2 _ rfl, r1, _, by simp only [AV.conc]; rw [show (V.at (addS V.toPE (p ++ q))).ς = (addS V.toPE (p ++ q)).ς from rfl, r2], fun w => ?_⟩
  have hs : ¬ ((((⟨p.toArray⟩ : ByteArray).size + (⟨q.toArray⟩ : ByteArray).size : Nat) : Int) > IntKind.i64.max) := by
   have s1 : (⟨p.toArray⟩ : ByteArray).size = p.length := by simp [ByteArray.size]
   have s2 : (⟨q.toArray⟩ : ByteArray).size = q.length := by simp [ByteArray.size]
   rw [s1, s2, IntKind.max_i64]; have := hK.1; omega
  simp only [binOp, Op.stringOp, Sem.run_ite, if_neg hs, Sem.run_pure]
  congr 2
 case eql =>
  cases hs
  refine (seq_ok h hx hy).mono (fun pe hu hr => ⟨_, hr, fun w => ?_⟩)
  simp only [binOp, Op.stringOp, e1, e2, Sem.run_pure, e3]
 case neq =>
  cases hs
  refine (seq_ok h hx hy).mono (fun pe hu hr => ⟨_, notB_ok (v := .bx (.var s.nb)) hr (.inr ⟨_, rfl⟩), fun w => ?_⟩)
  simp only [binOp, Op.stringOp, e1, e2, Sem.run_pure, e3]
theorem andB_ok {u v d : AV} {b c : Bool} (h : andB u v = some d) (hu : u.conc V = some (.bool b)) (hv : v.conc V = some (.bool c)) : d.conc V = some (.bool (b && c)) := by
 unfold andB at h
 split at h
 ·cases h; simp only [AV.conc] at hu; cases hu; simpa using hv
 ·cases h; simp only [AV.conc] at hu; cases hu; rfl
 ·cases h; simp only [AV.conc] at hv; cases hv; simpa using hu
 ·cases h; simp only [AV.conc] at hv; cases hv; simp [AV.conc]
 ·cases h
  obtain ⟨z1, h1, e1⟩ := conc_bx hu
  obtain ⟨z2, h2, e2⟩ := conc_bx hv
  cases e1; cases e2
  exact bx_mk (by simp only [BE.val, h1, h2])
 ·cases h
theorem eqBB_ok {x y v : AV} {X Y : Value} (h : eqBB x y = some v) (hX : x.conc V = some X) (hY : y.conc V = some Y) : ∃ a b, X = .bool a ∧ Y = .bool b ∧ v.conc V = some (.bool (a == b)) ∧ ((∃ t, v = .bool t) ∨ ∃ c, v = .bx c) := by
 have nb : ∀ {c : BE} {z : Bool}, c.val V.σ V.β = some z → (notB (.bx c)).conc V = some (.bool (!z)) ∧ ((∃ t, notB (.bx c) = .bool t) ∨ ∃ d, notB (.bx c) = .bx d) := fun {c z} hz =>
  ⟨notB_ok (bx_mk hz) (.inr ⟨_, rfl⟩), by cases c <;> exact .inr ⟨_, rfl⟩⟩
 unfold eqBB at h
 split at h
 ·cases h
  simp only [AV.conc, Option.some.injEq] at hX hY
  exact ⟨_, _, hX.symm, hY.symm, rfl, .inl ⟨_, rfl⟩⟩
 ·rename_i c b
  obtain ⟨z, hz, ez⟩ := conc_bx hX
  simp only [AV.conc, Option.some.injEq] at hY
  refine ⟨z, b, ez, hY.symm, ?_⟩
  cases b <;> cases h
  ·have := nb hz
   refine ⟨?_, this.2⟩
   cases z <;> exact this.1
  ·refine ⟨?_, .inr ⟨_, rfl⟩⟩
   rw [cond_true, bx_mk hz]; cases z <;> rfl
 ·rename_i b c
  obtain ⟨z, hz, ez⟩ := conc_bx hY
  simp only [AV.conc, Option.some.injEq] at hX
  refine ⟨b, z, hX.symm, ez, ?_⟩
  cases b <;> cases h
  ·have := nb hz
   refine ⟨?_, this.2⟩
   cases z <;> exact this.1
  ·refine ⟨?_, .inr ⟨_, rfl⟩⟩
   rw [cond_true, bx_mk hz]; cases z <;> rfl
 ·rename_i c d
  obtain ⟨z, hz, ez⟩ := conc_bx hX
  obtain ⟨u, hu, eu⟩ := conc_bx hY
  cases h
  refine ⟨z, u, ez, eu, ?_, .inr ⟨_, rfl⟩⟩
  refine bx_mk ?_
  simp only [BE.val, hz, hu]
  cases z <;> cases u <;> rfl
 ·cases h
theorem symEqV_ok (h : Rel P V s B w) {t : TypeId} {desc : TypeDesc} (hu : P.underlying t = some desc) {x y v : AV} {X Y : Value} (hX : x.conc V = some X) (hY : y.conc V = some Y) {l : List Pre} (hs : symEqV s desc x y = some (l, v, s')) (d' : Nat) :
  Yields P B w V s l s' (fun V' => ∃ b, v.conc V' = some (.bool b) ∧ ∀ w, (Op.equalIn (d' + 1) t X Y).run P w = .ok b w) := by
 unfold symEqV at hs
 split at hs
 ·rename_i k0 k a k' b
  cases ck : kindEq k k' with
  | false => rw [ck] at hs; cases hs
  | true =>
   rw [ck] at hs; cases hs
   have := kindEq_eq ck; subst this
   obtain ⟨x1, hx1, rfl⟩ := conc_int hX
   obtain ⟨y1, hy1, rfl⟩ := conc_int hY
   refine Yields.nil h ⟨_, (eqB_ok h hx1 hy1).1, fun w => ?_⟩
   rw [run_equalIn_int w d' t k k0 _ _ hu]
   congr 1
 ·cases c : (isStr x && isStr y) with
  | false => rw [c] at hs; cases hs
  | true =>
   rw [c] at hs; simp only [cond_true] at hs
   simp only [Bool.and_eq_true] at c
   obtain ⟨p, h1, rfl⟩ := isStr_ok c.1 hX
   obtain ⟨q, h2, rfl⟩ := isStr_ok c.2 hY
   have hr : ∀ w, (Op.equalIn (d' + 1) t (.string ⟨p.toArray⟩) (.string ⟨q.toArray⟩)).run P w = .ok (decide (p = q)) w := fun w => by
    rw [run_equalIn_string w d' t _ _ hu, toList_mk, toList_mk]
    congr 1
    by_cases hh : p = q <;> simp [hh]
   split at hs
   ·rename_i a b
    cases hs
    simp only [strV, Option.some.injEq] at h1 h2
    subst h1; subst h2
    exact Yields.nil h ⟨_, by rw [bytesEq_eq]; rfl, hr⟩
   ·cases hs
    exact (seq_ok h h1 h2).mono (fun pe hu hr' => ⟨_, hr', hr⟩)
 ·split at hs
  ·rename_i v' hv; cases hs
   obtain ⟨a, b, rfl, rfl, h1, _⟩ := eqBB_ok hv hX hY
   exact Yields.nil h ⟨_, h1, fun w => run_equalIn_bool w d' t a b hu⟩
  ·cases hs
 ·cases hs
theorem symEqT_ok (hG : GOk P g) : ∀ (d : Nat) (t : TypeId) (x y v : AV) (V : Env) (s s' : S) (X Y : Value) (l : List Pre), Rel P V s B w → symEqT g d t x y s = some (l, v, s') → x.conc V = some X → y.conc V = some Y →
  ∀ d', d ≤ d' → Yields P B w V s l s' (fun V' => ∃ b, v.conc V' = some (.bool b) ∧ ∀ w, (Op.equalIn d' t X Y).run P w = .ok b w) := by
 intro d
 induction d with
 | zero => intro t x y v V s s' X Y l _ h; simp [symEqT] at h
 | succ d ih =>
  intro t x y v V s s' X Y l hR h hX hY d' hd
  obtain ⟨e, rfl⟩ : ∃ e, d' = e + 1 := ⟨d' - 1, by omega⟩
  simp only [symEqT] at h
  split at h
  ·cases h
  ·rename_i ti hti
   have hu := (hG.ty t ti hti).desc
   split at h
   ·rename_i fields xs ys hd1
    rw [hd1] at hu
    cases cm : memN g.eqs t with
    | false => rw [cm] at h; cases h
    | true =>
     rw [cm] at h; simp only [cond_true] at h
     obtain ⟨us, rfl, hus⟩ := conc_agg hX
     obtain ⟨vs, rfl, hvs⟩ := conc_agg hY
     have hf : P.fieldsOf t = fields := by simp [Program.fieldsOf, hu]
     have hst : ∀ w, (Op.equalIn (e + 1) t (.agg us.toArray) (.agg vs.toArray)).run P w = (Op.eqFields e us.toArray vs.toArray fields.toList).run P w := fun w => by
      rw [run_equalIn_struct w e t _ _ (by rw [hf]; exact hu) (hG.eqs t cm).1, hf]
     simp only [hst]
     have key : ∀ (fs : List Field) (V : Env) (s s' : S) (l : List Pre) (v : AV), Rel P V s B w → concL V xs = some us → concL V ys = some vs → symEqF (symEqT g d) g xs ys fs s = some (l, v, s') →
       Yields P B w V s l s' (fun V' => ∃ b, v.conc V' = some (.bool b) ∧ ∀ w, (Op.eqFields e us.toArray vs.toArray fs).run P w = .ok b w) := by
      intro fs
      induction fs with
      | nil => intro V s s' l v hR _ _ h; simp only [symEqF] at h; cases h; exact Yields.nil hR ⟨true, rfl, fun w => rfl⟩
      | cons f fs ihf =>
       intro V s s' l v hR hus hvs h
       simp only [symEqF] at h
       cases cn : (f.name == "_") with
       | true => rw [cn] at h; cases h
       | false =>
        rw [cn] at h; simp only [cond_false] at h
        have hne : f.name ≠ "_" := by intro e; rw [e] at cn; simp at cn
        split at h
        ·rename_i a c ha hc
         obtain ⟨A', hA', rA⟩ := partT_ok hG.ty ha hus
         obtain ⟨C', hC', rC⟩ := partT_ok hG.ty hc hvs
         split at h
         ·rename_i p b1 s1 h1
          split at h
          ·rename_i q c1 s2 h2
           split at h
           ·rename_i dd hdd; cases h
            refine (ih f.type a c b1 V s s1 A' C' p hR h1 hA' hC' e (by omega)).app (fun pe hu r1 r2 => ?_)
            obtain ⟨b, hb, hrun⟩ := r2
            have hx := ext_at hu
            refine (ihf (V.at pe) s1 _ q c1 r1 (concL_mono hx hus) (concL_mono hx hvs) h2).mono (fun pe' hu' r3 => ?_)
            obtain ⟨b', hb', hrun'⟩ := r3
            refine ⟨b && b', andB_ok hdd (conc_mono (ext_at (V := V.at pe) hu') _ _ hb) hb', fun w => ?_⟩
            simp only [Op.eqFields, if_pos hne, Sem.run_bind, rA, rC, Result.andThen_ok, hrun]
            cases b with
            | true => simp only [Result.andThen_ok, Bool.not_true, Bool.false_eq_true, if_false, Bool.true_and]; exact hrun' w
            | false => simp
           ·cases h
          ·cases h
         ·cases h
        ·cases h
     exact key fields.toList V s s' l v hR hus hvs h
   ·split at h
    ·rename_i p x' s1 h1
     split at h
     ·rename_i q y' s2 h2
      split at h
      ·rename_i r b s3 h3; cases h
       refine (force_ok hG hR h1 hX).app (fun pe hu r1 hX1 => ?_)
       refine (force_ok hG r1 h2 (conc_mono (ext_at hu) _ _ hY)).app (fun pe2 hu2 r2 hY2 => ?_)
       exact symEqV_ok r2 (hG.ty t ti hti).desc (conc_mono (ext_at (V := V.at pe) hu2) _ _ hX1) hY2 h3 e
      ·cases h
     ·cases h
    ·cases h
end
end Go.Proofs.YtjabmipkllkfbaaGreatDoor.Vc
namespace Go.Proofs.YtjabmipkllkfbaaGreatDoor.Vc
open Go.RowKit
def HeldAt (V : Env) (a : Nat) (r : Option Nat) (off : IE) (p : Addr) (x : Value) : Prop :=
 ∃ q o, placeV V.τ a = some (some q) ∧ natV V.σ off = some o ∧ p = q.add o ∧ (match r with | none => memCell V.mem p = some x | some r => ∃ l, lget V.ρ r = some l ∧ l[o]? = some x)
def ExtRel (V : Env) : List HX → List (Addr × Value) → Prop
 | [], [] => True
 | (a, r, off) :: h, (p, x) :: c => HeldAt V a r off p x ∧ ExtRel V h c
 | _, _ => False
def AtW (c : List (Addr × Value)) (w : World) : Prop := ∀ p x, (p, x) ∈ c → w.cell? p = some x
section
variable {P : Program} {g : G} {V : Env} {s s' : S} {B w : World} {a : A} {A : Act}
theorem mem_cell (h : Rel P V s B w) {p : Addr} {x : Value} (hm : memCell V.mem p = some x) : w.cell? p = some x := by
 unfold memCell at hm
 unfold World.cell?
 cases hb : V.mem p.block with
 | none => rw [hb] at hm; cases hm
 | some o => rw [(h.mem _ _ hb).1]; rw [hb] at hm; exact hm
theorem ownGet_some : ∀ {l : List Own} {a : Nat} {o : Own}, ownGet l a = some o → o ∈ l ∧ o.a = a := by
 intro l
 induction l with
 | nil => intro a o h; cases h
 | cons x l ih =>
  intro a o h
  simp only [ownGet] at h
  cases hb : Nat.beq x.a a with
  | true => rw [hb] at h; cases h; exact ⟨List.mem_cons_self .., by simpa using hb⟩
  | false => rw [hb] at h; exact ⟨List.mem_cons_of_mem _ (ih h).1, (ih h).2⟩
theorem own_one (h : Rel P V s B w) {a : Nat} {o : Own} (ho : ownGet s.own a = some o) (hm : o.m = false) {l : List Value} (hl : lget V.ρ o.r = some l) : ∀ x ∈ l, oneV x = some x := by
 obtain ⟨q', l', n, c, m1, m2, _, _, m5, _⟩ := h.own.ok o (ownGet_some ho).1
 rw [hl] at m2; cases m2
 exact m5.2 hm
theorem own_cell (h : Rel P V s B w) {a : Nat} {o : Own} (ho : ownGet s.own a = some o) (hm : o.m = false) {off : IE} {p : Addr} {x : Value} (hh : HeldAt V a (some o.r) off p x) : w.cell? p = some x := by
 obtain ⟨h1, h2⟩ := ownGet_some ho
 obtain ⟨q, j, k1, k2, rfl, l, k3, k4⟩ := hh
 obtain ⟨q', l', n, c, m1, m2, _, _, _, _, _, m3⟩ := h.own.ok o h1
 rw [h2, hm] at m1
 rw [k3] at m2; cases m2
 unfold placeV at k1; rw [m1] at k1; cases k1
 obtain ⟨e1, e2, _, _, _, ob, e3, e4⟩ := m3 q rfl
 unfold ObjOk at e4
 rw [hm] at e4
 obtain ⟨rest, fz, rfl, _⟩ := e4
 have hj : j < l.length := (List.getElem?_eq_some_iff.1 k4).1
 obtain ⟨b, of, sp⟩ := q
 simp only at e1 e2 e3
 subst e1; subst e2
 rw [add_at, Nat.zero_add]
 simp only [World.cell?, e3]
 simp [List.getElem?_append_left hj, k4]
def Out1 (P : Program) (A : Act) (w : World) (o : Oper) (v : AV) (hs : List HX) (V' : Env) : Prop :=
 ∃ x c, v.conc V' = some x ∧ ExtRel V' hs c ∧ AtW c w ∧ ∀ w', AtW c w' → (execOp A.eval o).run P w' = .ok (.value x) w'
theorem symEqT_agg {d : Nat} {t : TypeId} {xs ys : List AV} {r : List Pre × AV × S} (h : symEqT g d t (.agg xs) (.agg ys) s = some r) : memN g.eqs t = true := by
 cases d with
 | zero => simp [symEqT] at h
 | succ d =>
  simp only [symEqT] at h
  split at h
  ·cases h
  ·split at h
   ·cases cm : memN g.eqs t with
    | true => rfl
    | false => rename_i h1 h2; simp_all
   ·simp only [force, isLazy, cond_false] at h
    split at h
    ·rename_i r b s3 h3
     unfold symEqV at h3
     split at h3
     ·simp_all
     ·simp [isStr] at h3
     ·simp [eqBB] at h3
     ·cases h3
    ·cases h
theorem symBin_ok (hG : GOk P g) (hR : Rel P V s B w) {op : BinOp} {t : TypeId} {x y v : AV} {X Y : Value} {l : List Pre} (xo yo : Operand) (h : symBin g s op t x y = some (l, v, s')) (hX : x.conc V = some X) (hY : y.conc V = some Y) :
  Yields P B w V s l s' (fun V' => ∃ R, v.conc V' = some R ∧ ∀ w, (do eqGuard op t xo yo X Y; binOp op t X Y : Sem Value).run P w = .ok R w) := by
 have sh : ∀ {R : Value}, (∀ w, (binOp op t X Y).run P w = .ok R w) → (∀ w, (eqGuard op t xo yo X Y).run P w = .ok () w) → ∀ w, (do eqGuard op t xo yo X Y; binOp op t X Y : Sem Value).run P w = .ok R w := by
  intro R h1 h2 w
  simp only [Sem.run_bind, h2, Result.andThen_ok, h1]
 unfold symBin at h
 split at h
 ·rename_i k a k' b
  obtain ⟨x1, hx1, rfl⟩ := conc_int hX
  obtain ⟨y1, hy1, rfl⟩ := conc_int hY
  refine (pushArith_ok (P := P) (k' := k') hR hx1 hy1 t h (.inr (.inl rfl))).mono (fun pe hu hr => ?_)
  obtain ⟨R, h1, h2⟩ := hr
  exact ⟨R, h1, sh h2 (fun w => eqGuard_no _ _ _ _ _ _ w (by simp) (by simp))⟩
 ·rename_i k a k' b
  obtain ⟨x1, hx1, rfl⟩ := conc_int hX
  obtain ⟨y1, hy1, rfl⟩ := conc_int hY
  refine (pushArith_ok (P := P) (k' := k') hR hx1 hy1 t h (.inr (.inr rfl))).mono (fun pe hu hr => ?_)
  obtain ⟨R, h1, h2⟩ := hr
  exact ⟨R, h1, sh h2 (fun w => eqGuard_no _ _ _ _ _ _ w (by simp) (by simp))⟩
 ·rename_i k a k' b _ _
  obtain ⟨x1, hx1, rfl⟩ := conc_int hX
  obtain ⟨y1, hy1, rfl⟩ := conc_int hY
  cases ck : kindEq k k' with
  | false => rw [ck] at h; cases h
  | true =>
   rw [ck] at h; simp only [cond_true] at h
   have := kindEq_eq ck; subst this
   refine (symInt_ok (P := P) hR hx1 hy1 t h).mono (fun pe hu hr => ?_)
   obtain ⟨R, h1, h2⟩ := hr
   exact ⟨R, h1, sh h2 (fun w => eqGuard_no _ _ _ _ _ _ w (by simp) (by simp))⟩
 ·rename_i xs ys
  obtain ⟨us, rfl, hus⟩ := conc_agg hX
  obtain ⟨vs, rfl, hvs⟩ := conc_agg hY
  have hm := symEqT_agg h
  refine (symEqT_ok hG 100 t (.agg xs) (.agg ys) v V s s' _ _ l hR h hX hY 10000 (by omega)).mono (fun pe hu hr => ?_)
  obtain ⟨b, h1, h2⟩ := hr
  exact ⟨_, h1, sh (fun w => binOp_eql rfl rfl t w (h2 w)) (fun w => eqGuard_plain hG _ t xo yo rfl (fun _ _ _ _ => hm) w)⟩
 ·rename_i xs ys
  obtain ⟨us, rfl, hus⟩ := conc_agg hX
  obtain ⟨vs, rfl, hvs⟩ := conc_agg hY
  have key : ∀ {p : List Pre} {b0 b1 : AV} {s1 : S}, symEqT g 100 t (.agg xs) (.agg ys) s = some (p, b0, s1) → (∀ V' : Env, ∀ b, b0.conc V' = some (.bool b) → b1.conc V' = some (.bool !b)) →
    Yields P B w V s p s1 (fun V' => ∃ R, b1.conc V' = some R ∧ ∀ w, (do eqGuard .neq t xo yo (.agg us.toArray) (.agg vs.toArray); binOp .neq t (.agg us.toArray) (.agg vs.toArray) : Sem Value).run P w = .ok R w) := by
   intro p b0 b1 s1 h0 hb
   have hm := symEqT_agg h0
   refine (symEqT_ok hG 100 t (.agg xs) (.agg ys) b0 V s _ _ _ p hR h0 hX hY 10000 (by omega)).mono (fun pe hu hr => ?_)
   obtain ⟨b, h1, h2⟩ := hr
   exact ⟨_, hb _ _ h1, sh (fun w => binOp_neq rfl rfl t w (h2 w)) (fun w => eqGuard_plain hG _ t xo yo rfl (fun _ _ _ _ => hm) w)⟩
  split at h
  ·rename_i p b0 s1 h0; cases h
   exact key h0 (fun V' b hb => by simp only [AV.conc] at hb; cases hb; rfl)
  ·rename_i p c s1 h0; cases h
   exact key h0 (fun V' b hb => notB_ok hb (.inr ⟨_, rfl⟩))
  ·cases h
 ·simp only [AV.conc] at hY; cases hY
  refine (symNil_ok hG hR hX h).mono (fun pe hu hr => ?_)
  obtain ⟨p, e, q, n, c, h1, rfl, h3, h4⟩ := hr
  exact ⟨_, h1, sh (fun w => by rw [← h3]; exact binOp_eql rfl rfl t w (run_eqIn_nil w 9999 t e q n c 0 0 h4)) (fun w => eqGuard_no _ _ _ _ _ _ w (by simp) (by simp))⟩
 ·simp only [AV.conc] at hY; cases hY
  refine (symNil_ok hG hR hX h).mono (fun pe hu hr => ?_)
  obtain ⟨p, e, q, n, c, h1, rfl, h3, h4⟩ := hr
  exact ⟨_, h1, sh (fun w => by rw [← h3]; exact binOp_neq rfl rfl t w (run_eqIn_nil w 9999 t e q n c 0 0 h4)) (fun w => eqGuard_no _ _ _ _ _ _ w (by simp) (by simp))⟩
 ·cases c : (isStr x && isStr y) with
  | false =>
   rw [c] at h; simp only [cond_false] at h
   unfold symBool at h
   split at h
   ·rename_i ti v' ht hv
    obtain ⟨a, b, rfl, rfl, h1, hv'⟩ := eqBB_ok hv hX hY
    split at h
    ·have hd : ti.desc = .bool := by assumption
     cases h
     exact Yields.nil hR ⟨_, h1, sh (fun w => binOp_eql rfl rfl t w (run_equalIn_bool w 9999 t a b (by rw [(hG.ty t ti ht).desc, hd]))) (fun w => eqGuard_no _ _ _ _ _ _ w (by simp) (by simp))⟩
    ·have hd : ti.desc = .bool := by assumption
     cases h
     exact Yields.nil hR ⟨_, notB_ok h1 hv', sh (fun w => binOp_neq rfl rfl t w (run_equalIn_bool w 9999 t a b (by rw [(hG.ty t ti ht).desc, hd]))) (fun w => eqGuard_no _ _ _ _ _ _ w (by simp) (by simp))⟩
    ·cases h
   ·cases h
  | true =>
   rw [c] at h; simp only [cond_true] at h
   simp only [Bool.and_eq_true] at c
   obtain ⟨p, h1, rfl⟩ := isStr_ok c.1 hX
   obtain ⟨q, h2, rfl⟩ := isStr_ok c.2 hY
   refine (symStr_ok (P := P) hR h1 h2 t h).mono (fun pe hu hr => ?_)
   obtain ⟨R, h1, h2⟩ := hr
   exact ⟨R, h1, sh h2 (fun w => eqGuard_no _ _ _ _ _ _ w (by simp) (by simp))⟩
end
end Go.Proofs.YtjabmipkllkfbaaGreatDoor.Vc
namespace Go.Proofs.YtjabmipkllkfbaaGreatDoor.Vc
open Go.RowKit
section
variable {P : Program} {g : G} {V : Env} {s s' : S} {B w : World} {a : A} {A : Act}
theorem slen_ok (h : Rel P V s B w) {x : AV} {l : List UInt8} (hx : strV V.toPE x = some l) :
  Yields P B w V s [.d (.slen x)] (pushI s 0 9223372036854775807) (fun V' => (IE.var (nI s)).val V'.σ = some (l.length : Int)) := fun K hK => by
 simp only [preSat, Pre.sat, D.sat, hx] at hK
 obtain ⟨h1, h2, h3⟩ := hK _ rfl
 obtain ⟨r1, r2⟩ := relI h h1 h2
 exact ⟨_, upI _ _, h3, r1, r2⟩
theorem symLen_ok (hG : GOk P g) (hR : Rel P V s B w) {t : TypeId} (ts : List TypeId) (ty : TypeId) {x v : AV} {X : Value} (xr : List Value) {l : List Pre} (h : symLen g s t x = some (l, v, s')) (hX : x.conc V = some X) :
  Yields P B w V s l s' (fun V' => ∃ R, v.conc V' = some R ∧ ∀ w, (Builtin.len_ ⟨t :: ts⟩ ty (X :: xr).toArray).run P w = .ok R w) := by
 unfold symLen at h
 split at h
 ·cases h
 ·rename_i ti hti
  have hu := (hG.ty _ _ hti).desc
  split at h
  ·rename_i e _ _ _ _ hd; cases h
   rw [hd] at hu
   obtain ⟨p, o, n, c, h1, h2, h3, h4, rfl⟩ := xsV_some hX
   exact Yields.nil hR ⟨.int .i64 n, int_mk (natV_some h3), fun w => by simp [Builtin.len_, run_underlying hu, goInt]⟩
  ·rename_i hd; cases h
   rw [hd] at hu
   obtain ⟨l, h1, rfl⟩ := conc_sv hX
   refine (slen_ok hR (x := .sv _) h1).mono (fun pe hu' hr => ⟨_, int_mk hr, fun w => ?_⟩)
   have hs : (⟨l.toArray⟩ : ByteArray).size = l.length := by simp [ByteArray.size]
   simp [Builtin.len_, run_underlying hu, hs, goInt]
  ·cases h
theorem symCap_ok (hG : GOk P g) (hR : Rel P V s B w) {t : TypeId} (ts : List TypeId) (ty : TypeId) {x v : AV} {X : Value} (xr : List Value) {l : List Pre} (h : symCap g s t x = some (l, v, s')) (hX : x.conc V = some X) :
  Yields P B w V s l s' (fun V' => ∃ R, v.conc V' = some R ∧ ∀ w, (Builtin.cap_ ⟨t :: ts⟩ ty (X :: xr).toArray).run P w = .ok R w) := by
 unfold symCap at h
 split at h
 ·cases h
 ·rename_i ti hti
  have hu := (hG.ty _ _ hti).desc
  split at h
  ·rename_i e _ _ _ _ hd; cases h
   rw [hd] at hu
   obtain ⟨p, o, n, c, h1, h2, h3, h4, rfl⟩ := xsV_some hX
   exact Yields.nil hR ⟨.int .i64 c, int_mk (natV_some h4), fun w => by simp [Builtin.cap_, run_underlying hu, goInt]⟩
  ·cases h
theorem mm2 (mx : Bool) (k k' : IntKind) (x y : Int) (w : World) : ((if mx then Builtin.max2 else Builtin.min2) (.int k x) (.int k' y)).run P w = .ok (.int k (bif mx then max x y else min x y)) w := by
 cases mx
 ·have : (if y < x then y else x) = min x y := by split <;> omega
  simp [Builtin.min2, this]
 ·have : (if y > x then y else x) = max x y := by split <;> omega
  simp [Builtin.max2, this]
theorem symMM_ok (mx : Bool) : ∀ (r : List AV) (V : Env) (s s' : S) (x v : AV) (X : Value) (xs : List Value) (l : List Pre), Rel P V s B w → symMM mx x r s = some (l, v, s') → x.conc V = some X → concL V r = some xs →
  Yields P B w V s l s' (fun V' => ∃ R, v.conc V' = some R ∧ ∀ w, (xs.foldlM (if mx then Builtin.max2 else Builtin.min2) X).run P w = .ok R w) := by
 intro r
 induction r with
 | nil => intro V s s' x v X xs l hR h hX hr; cases hr; simp [symMM] at h; obtain ⟨rfl, rfl, rfl⟩ := h; exact Yields.nil hR ⟨X, hX, fun w => rfl⟩
 | cons y ys ih =>
  intro V s s' x v X xs l hR h hX hr
  obtain ⟨Y, r', rfl, hY, hr'⟩ := concL_cons hr
  unfold symMM at h
  split at h
  ·rename_i h0; cases h0
  ·rename_i s _ _ s0 k a k' b r0 e1; cases e1
   obtain ⟨x1, hx1, rfl⟩ := conc_int hX
   obtain ⟨y1, hy1, rfl⟩ := conc_int hY
   cases ck : kindEq k k' with
   | false => rw [ck] at h; cases h
   | true =>
    rw [ck] at h; simp only [cond_true] at h
    split at h
    ·rename_i t ht
     have l1 := leE_ok hR.know _ _ _ ht hx1 hy1
     have hv : (AV.int k (bif mx then (bif t then b else a) else (bif t then a else b))).conc V = some (.int k (bif mx then max x1 y1 else min x1 y1)) := by
      apply int_mk
      cases mx <;> cases t <;> simp at l1 <;> simp only [cond_true, cond_false] <;> first
       | (rw [hx1]; congr 1; omega)
       | (rw [hy1]; congr 1; omega)
     refine (ih V s s' _ v _ r' l hR h hv hr').mono (fun pe hu hr => ?_)
     obtain ⟨R, h1, h2⟩ := hr
     exact ⟨R, h1, fun w => by rw [List.foldlM_cons, Sem.run_bind, mm2]; exact h2 w⟩
    ·split at h
     ·rename_i p v1 s1 h1; cases h
      have hm : Yields P B w V s [.d (.mm mx k a b)] (pushI s k.min k.max) (fun V' => (IE.var (nI s)).val V'.σ = some (bif mx then max x1 y1 else min x1 y1)) := fun K hK => by
       simp only [preSat, Pre.sat, D.sat, hx1, hy1] at hK
       obtain ⟨h1, h2⟩ := hK _ rfl
       obtain ⟨r1, r2⟩ := relI hR h1.1 h1.2
       exact ⟨_, upI _ _, h2, r1, r2⟩
      refine Yields.app (p := [.d (.mm mx k a b)]) hm (fun pe hu r1 r2 => ?_)
      refine (ih (V.at pe) _ s' _ v _ r' p r1 h1 (int_mk r2) (concL_mono (ext_at hu) hr')).mono (fun pe' hu' hr => ?_)
      obtain ⟨R, h1, h2⟩ := hr
      exact ⟨R, h1, fun w => by rw [List.foldlM_cons, Sem.run_bind, mm2]; exact h2 w⟩
     ·cases h
  ·cases h
theorem boundE_ok (hA : ARel V a A) (hg : GlobOk V s) {o : Option Operand} {d e : IE} (h : boundE a s o d = some e) {n : Nat} (hn : d.val V.σ = some (n : Int)) :
  ∃ z, e.val V.σ = some z ∧ ((o = none ∧ z = n) ∨ ∃ x k, o = some x ∧ A.eval x = .int k z) := by
 unfold boundE at h
 split at h
 ·cases h; exact ⟨n, hn, .inl ⟨rfl, rfl⟩⟩
 ·rename_i x
  split at h
  ·rename_i k e' hv; cases h
   obtain ⟨z, hz, hk⟩ := conc_int (evO_ok hA hg hv)
   exact ⟨z, hz, .inr ⟨x, k, rfl, hk⟩⟩
  ·cases h
theorem run_bounds2 {lo hi : Option Operand} {len cap : Nat} {i j : Int} (b : Bool) (h1 : (lo = none ∧ i = 0) ∨ ∃ x k, lo = some x ∧ A.eval x = .int k i) (h2 : (hi = none ∧ j = len) ∨ ∃ x k, hi = some x ∧ A.eval x = .int k j) (h0 : 0 ≤ i) (hij : i ≤ j) (hjc : j ≤ cap) (w : World) :
  (Instr.sliceBounds b len cap (lo.map A.eval) (hi.map A.eval) none).run P w = .ok (i.toNat, j.toNat, cap) w := by
 obtain ⟨i, rfl⟩ := Int.eq_ofNat_of_zero_le h0
 obtain ⟨j, rfl⟩ := Int.eq_ofNat_of_zero_le (Int.le_trans h0 hij)
 have sb : ∀ {n m : Nat} {k : IntKind} (h : n ≤ m) (code : BoundsCode) (w : World), (Instr.sliceBound (.int k n) m code).run P w = .ok n w := fun h c w => run_sliceBound h c w
 have hij' : i ≤ j := by omega
 have hjc' : j ≤ cap := by omega
 simp only [Int.toNat_natCast]
 rcases h2 with ⟨rfl, e2⟩ | ⟨x, k, rfl, hx⟩ <;> rcases h1 with ⟨rfl, e1⟩ | ⟨y, k', rfl, hy⟩
 ·have e1' : i = 0 := by omega
  have e2' : j = len := by omega
  subst e1'; subst e2'
  simp only [Instr.sliceBounds, Option.map_none, Sem.run_bind, Sem.run_pure, Result.andThen_ok]
 ·have e2' : j = len := by omega
  subst e2'
  simp only [Instr.sliceBounds, Option.map_none, Option.map_some, hy, Sem.run_bind, Sem.run_pure, Result.andThen_ok, sb hij']
 ·have e1' : i = 0 := by omega
  subst e1'
  simp only [Instr.sliceBounds, Option.map_none, Option.map_some, hx, Sem.run_bind, Sem.run_pure, Result.andThen_ok, sb hjc']
 ·simp only [Instr.sliceBounds, Option.map_some, hx, hy, Sem.run_bind, Sem.run_pure, Result.andThen_ok, sb hij', sb hjc']
theorem isLit0_ok {e : IE} (h : isLit0 e = true) : e = .lit 0 := by
 cases e <;> simp [isLit0, ieq_eq] at h; rw [h]
theorem ssub_ok (h : Rel P V s B w) {x : AV} {l : List UInt8} {lo hi : IE} {i j : Int} (hx : strV V.toPE x = some l) (h1 : lo.val V.σ = some i) (h2 : hi.val V.σ = some j) :
  Yields P B w V s [.d (.ssub x lo hi)] (pushS s) (fun V' => (0 ≤ i ∧ i ≤ j ∧ j ≤ (l.length : Int)) ∧ (AV.sv s.ns).conc V' = some (.string ⟨((l.drop i.toNat).take (j.toNat - i.toNat)).toArray⟩)) := fun K hK => by
 simp only [preSat, Pre.sat, D.sat, hx, h1, h2] at hK
 obtain ⟨r1, r2⟩ := relS h ((l.drop i.toNat).take (j.toNat - i.toNat))
 refine ⟨_, upS _ _, hK.2 _ rfl, r1, hK.1, ?_⟩
 simp only [AV.conc]
 rw [show (V.at (addS V.toPE ((l.drop i.toNat).take (j.toNat - i.toNat)))).ς = (addS V.toPE ((l.drop i.toNat).take (j.toNat - i.toNat))).ς from rfl, r2]
theorem nat_ok (h : Rel P V s B w) {e : IE} {z : Int} (he : e.val V.σ = some z) : Yields P B w V s [.d (.nat e)] (pushI s 0 9223372036854775807) (fun V' => (IE.var (nI s)).val V'.σ = some z) := fun K hK => by
 simp only [preSat, Pre.sat, D.sat, he] at hK
 obtain ⟨n, rfl, h2, h3⟩ := hK
 obtain ⟨r1, r2⟩ := relI h (x := (n : Int)) (lo := 0) (hi := 9223372036854775807) (by omega) (by omega)
 exact ⟨_, upI _ _, h3, r1, r2⟩
theorem run_bounds3 {lo : Option Operand} {hi mx : Operand} {len cap : Nat} {h m : Int} {kh km : IntKind} (h1 : (lo = none ∧ (0 : Int) = 0) ∨ ∃ x k, lo = some x ∧ A.eval x = .int k 0) (h2 : A.eval hi = .int kh h) (h3 : A.eval mx = .int km m) (h0 : 0 ≤ h) (hhm : h ≤ m) (hmc : m ≤ cap) (w : World) :
  (Instr.sliceBounds true len cap (lo.map A.eval) (some (A.eval hi)) (some (A.eval mx))).run P w = .ok (0, h.toNat, m.toNat) w := by
 obtain ⟨h, rfl⟩ := Int.eq_ofNat_of_zero_le h0
 obtain ⟨m, rfl⟩ := Int.eq_ofNat_of_zero_le (Int.le_trans h0 hhm)
 have sb : ∀ {n m : Nat} {k : IntKind} (h : n ≤ m) (code : BoundsCode) (w : World), (Instr.sliceBound (.int k n) m code).run P w = .ok n w := fun h c w => run_sliceBound h c w
 have e1 : h ≤ m := by omega
 have e2 : m ≤ cap := by omega
 simp only [Int.toNat_natCast]
 rcases h1 with ⟨rfl, _⟩ | ⟨y, k', rfl, hy⟩
 ·simp only [Instr.sliceBounds, Option.map_none, Sem.run_bind, h2, h3, sb e2, sb e1, Result.andThen_ok, Sem.run_pure]
 ·have z : (Instr.sliceBound (.int k' 0) h .slice3C).run P w = .ok 0 w := sb (n := 0) (Nat.zero_le h) _ w
  simp only [Instr.sliceBounds, Option.map_some, Option.isSome_some, if_true, Sem.run_bind, h2, h3, hy, sb e2, sb e1, z, Result.andThen_ok, Sem.run_pure]
theorem symSlice3_ok (hG : GOk P g) (hR : Rel P V s B w) (hA : ARel V a A) {t : TypeId} {e : TypeId} {ti te : TI} {b : Nat} {off len cap : IE} {X : Value} {lo : Option Operand} {hi mx : Operand} {i : IE} {h m : Int} (hti : g.ty.get t = some ti) (hd : ti.desc = .slice e) (hte : g.ty.get e = some te)
  (h1 : boundE a s lo (.lit 0) = some i) (h2 : boundE a s (some hi) (.lit 0) = some (.lit h)) (h3 : boundE a s (some mx) (.lit 0) = some (.lit m)) (hc : (isLit0 i && ile 0 h && ile h m && ile m 9223372036854775807) = true) (hX : (AV.sl b off len cap).conc V = some X) :
  Yields P B w V s (needLe s (.lit m) cap) s (fun V' => ∃ R, (AV.sl b off (.lit h) (.lit m)).conc V' = some R ∧ ∀ w, (Instr.sliceAt t X (lo.map A.eval) (some (A.eval hi)) (some (A.eval mx))).run P w = .ok R w) := by
 have hg := hR.globOk
 have hu := (hG.ty _ _ hti).desc
 rw [hd] at hu
 have hsz := fun w => run_sizeOf' (w := w) (hG.ty _ _ hte)
 simp only [Bool.and_eq_true, ile_eq, decide_eq_true_eq] at hc
 obtain ⟨⟨⟨c0, c1⟩, c2⟩, c3⟩ := hc
 have := isLit0_ok c0; subst this
 obtain ⟨p, o, n, c, q1, q2, q3, q4, rfl⟩ := xsV_some hX
 obtain ⟨zi, e1, b1⟩ := boundE_ok hA hg h1 (n := 0) rfl
 obtain ⟨zh, e2, b2⟩ := boundE_ok hA hg h2 (n := 0) rfl
 obtain ⟨zm, e3, b3⟩ := boundE_ok hA hg h3 (n := 0) rfl
 simp only [IE.val, Option.some.injEq] at e1 e2 e3
 subst e1; subst e2; subst e3
 have ec := natV_some q4
 refine (needLe_ok hR (x := .lit m) rfl ec).mono (fun pe hu1 k1 => ?_)
 obtain ⟨x2, k2, j2, hx2⟩ := b2.resolve_left (fun h => by cases h.1)
 obtain ⟨x3, k3, j3, hx3⟩ := b3.resolve_left (fun h => by cases h.1)
 cases j2; cases j3
 refine ⟨.slice (p.map fun p => p.add o) h.toNat m.toNat, ?_, fun w => ?_⟩
 ·have t1 : natV pe.σ (.lit h) = some h.toNat := natV_of rfl c1
  have t2 : natV pe.σ (.lit m) = some m.toNat := natV_of rfl (by omega)
  simp only [AV.conc, xsV, Env.at_toPE, Env.at_at, placeV_up hu1.τ q1, natV_up hu1.σ q2, t1, t2]
 ·simp only [Instr.sliceAt, Sem.run_bind, run_underlying hu, Result.andThen_ok, Instr.slice]
  rw [run_bounds3 (by simpa using b1) hx2 hx3 c1 c2 k1 w]
  simp only [Result.andThen_ok, hsz, Sem.run_pure, Nat.sub_zero, Nat.zero_mul]
  congr 2
  split
  ·rfl
  ·cases p <;> simp [Addr.add]
theorem symSlice_ok (hG : GOk P g) (hR : Rel P V s B w) (hA : ARel V a A) {t : TypeId} {x v : AV} {X : Value} {lo hi : Option Operand} {l : List Pre} (h : symSlice g a s t x lo hi = some (l, v, s')) (hX : x.conc V = some X) :
  Yields P B w V s l s' (fun V' => ∃ R, v.conc V' = some R ∧ ∀ w, (Instr.sliceAt t X (lo.map A.eval) (hi.map A.eval) none).run P w = .ok R w) := by
 have hg := hR.globOk
 unfold symSlice at h
 split at h
 ·cases h
 ·rename_i ti hti
  have hu := (hG.ty _ _ hti).desc
  split at h
  ·rename_i e b off len cap hd
   rw [hd] at hu
   obtain ⟨p, o, n, c, q1, q2, q3, q4, rfl⟩ := xsV_some hX
   split at h
   ·rename_i i j te h1 h2 hte
    obtain ⟨zi, e1, b1⟩ := boundE_ok hA hg h1 (n := 0) rfl
    obtain ⟨zj, e2, b2⟩ := boundE_ok hA hg h2 (n := n) (natV_some q3)
    have ec := natV_some q4
    have eo := natV_some q2
    have hsz := fun w => run_sizeOf' (w := w) (hG.ty _ _ hte)
    cases c0 : isLit0 i with
    | true =>
     rw [c0] at h; simp only [cond_true] at h; cases h
     have := isLit0_ok c0; subst this
     simp only [IE.val, Option.some.injEq] at e1; subst e1
     refine (needLe_ok hR (x := .lit 0) rfl e2).app (fun pe hu1 r1 k1 => ?_)
     refine (needLe_ok r1 (IE.val_up hu1.σ _ _ e2) (IE.val_up hu1.σ _ _ ec)).app (fun pe2 hu2 r2 k2 => ?_)
     have hup := hu1.trans hu2
     simp only [Env.at_at] at r2
     refine (nat_ok r2 (IE.val_up hup.σ _ _ e2)).mono (fun pe3 hu3 k3 => ?_)
     have hup3 := hup.trans hu3
     refine ⟨.slice (p.map fun p => p.add o) zj.toNat c, ?_, fun w => ?_⟩
     ·have t1 : natV pe3.σ (.var (nI s)) = some zj.toNat := natV_of k3 k1
      simp only [AV.conc, xsV, Env.at_toPE, Env.at_at, placeV_up hup3.τ q1, natV_up hup3.σ q2, natV_up hup3.σ q4, t1]
     ·simp only [Instr.sliceAt, Sem.run_bind, run_underlying hu, Result.andThen_ok, Instr.slice]
      rw [run_bounds2 true (i := 0) (j := zj) (by simpa using b1) b2 (by omega) k1 k2 w]
      simp only [Result.andThen_ok, hsz, Sem.run_pure, Int.toNat_zero, Nat.sub_zero, Nat.zero_mul]
      congr 2
      split
      ·rfl
      ·cases p <;> simp [Addr.add]
    | false =>
     rw [c0] at h; simp only [cond_false] at h; cases h
     refine (needLe_ok hR (x := .lit 0) rfl e1).app (fun pe hu1 r1 k1 => ?_)
     refine (needLe_ok r1 (IE.val_up hu1.σ _ _ e1) (IE.val_up hu1.σ _ _ e2)).app (fun pe2 hu2 r2 k2 => ?_)
     have hup := hu1.trans hu2
     refine (needLe_ok r2 (IE.val_up hup.σ _ _ e2) (IE.val_up hup.σ _ _ ec)).app (fun pe3 hu3 r3 k3 => ?_)
     have hup3 := hup.trans hu3
     simp only [Env.at_at] at r3
     have hcut : Yields P B w (V.at pe3) s [.d (.cut off cap i te.size)] (pushI s 0 9223372036854775807) (fun V' => (IE.var (nI s)).val V'.σ = some (if (c : Int) = zi then (o : Int) else (o : Int) + zi * (te.size : Int)) ∧ 0 ≤ (if (c : Int) = zi then (o : Int) else (o : Int) + zi * (te.size : Int))) := fun K hK => by
      simp only [preSat, Pre.sat, D.sat, Env.at_toPE, IE.val_up hup3.σ _ _ eo, IE.val_up hup3.σ _ _ ec, IE.val_up hup3.σ _ _ e1] at hK
      obtain ⟨z, z1, z2, z3⟩ := hK
      obtain ⟨t1, t2⟩ := relI r3 (x := (z : Int)) (lo := 0) (hi := 9223372036854775807) (by omega) (by omega)
      exact ⟨_, upI _ _, z3, t1, by rw [← z1]; exact t2, by rw [← z1]; omega⟩
     refine Yields.app (p := [.d (.cut off cap i te.size)]) hcut (fun pe4 hu4 r4 k4 => ?_)
     obtain ⟨m1, m2⟩ := k4
     have hup4 := hup3.trans hu4
     simp only [Env.at_at] at r4
     refine Yields.app (p := [.d (.nat (subE j i))]) (nat_ok r4 (subE_val (IE.val_up hup4.σ _ _ e2) (IE.val_up hup4.σ _ _ e1))) (fun pe5 hu5 r5 k5 => ?_)
     have hup5 := hup4.trans hu5
     simp only [Env.at_at] at r5
     refine (nat_ok r5 (subE_val (IE.val_up hup5.σ _ _ ec) (IE.val_up hup5.σ _ _ e1))).mono (fun pe6 hu6 k6 => ?_)
     have hup6 := hup5.trans hu6
     have n1' : nI (pushI s 0 9223372036854775807) = Nat.succ (nI s) := by simp [nI, pushI, llen_eq]
     have n2' : nI (pushI (pushI s 0 9223372036854775807) 0 9223372036854775807) = Nat.succ (Nat.succ (nI s)) := by simp [nI, pushI, llen_eq]
     rw [n1'] at k5; rw [n2'] at k6
     obtain ⟨i', rfl⟩ := Int.eq_ofNat_of_zero_le k1
     obtain ⟨j', rfl⟩ := Int.eq_ofNat_of_zero_le (Int.le_trans k1 k2)
     have hij : i' ≤ j' := by omega
     have hjc : j' ≤ c := by omega
     have hoff : (if (c : Int) = (i' : Int) then (o : Int) else (o : Int) + (i' : Int) * (te.size : Int)) = ((if c = i' then o else o + i' * te.size : Nat) : Int) := by
      by_cases hc : c = i'
      ·simp [hc]
      ·have : ¬ ((c : Int) = (i' : Int)) := by omega
       simp [hc, this]
     refine ⟨.slice (p.map fun p => p.add (if c = i' then o else o + i' * te.size)) (j' - i') (c - i'), ?_, fun w => ?_⟩
     ·have t1 : natV pe6.σ (.var (nI s)) = some (if c = i' then o else o + i' * te.size) := by
       have := natV_of (IE.val_up (hu5.trans hu6).σ _ _ m1) m2
       rw [this, hoff, Int.toNat_natCast]
      have t2 : natV pe6.σ (.var (Nat.succ (nI s))) = some (j' - i') := by
       have := natV_of (IE.val_up hu6.σ _ _ k5) (by omega)
       rw [this]; congr 1; omega
      have t3 : natV pe6.σ (.var (Nat.succ (Nat.succ (nI s)))) = some (c - i') := by
       have := natV_of (σ := pe6.σ) k6 (by omega)
       rw [this]; congr 1; omega
      simp only [AV.conc, xsV, Env.at_toPE, Env.at_at, placeV_up hup6.τ q1, t1, t2, t3]
     ·simp only [Instr.sliceAt, Sem.run_bind, run_underlying hu, Result.andThen_ok, Instr.slice]
      rw [run_bounds2 true (i := i') (j := j') (by simpa using b1) b2 (by omega) (by omega) (by omega) w]
      simp only [Result.andThen_ok, hsz, Sem.run_pure, Int.toNat_natCast]
      congr 2
      by_cases hc : c = i'
      ·simp [hc]
      ·rw [if_neg hc]
       cases p <;> simp [add_add, hc]
   ·cases h
  ·rename_i x _ _ hd
   rw [hd] at hu
   cases cs : isStr x with
   | false => rw [cs] at h; cases h
   | true =>
    rw [cs] at h; simp only [cond_true] at h
    obtain ⟨bs, hbs, rfl⟩ := isStr_ok cs hX
    have hs : (⟨bs.toArray⟩ : ByteArray).size = bs.length := by simp [ByteArray.size]
    split at h
    ·rename_i i hh h1
     split at h
     ·rename_i j h2; cases h
      obtain ⟨zi, e1, b1⟩ := boundE_ok hA hg h1 (n := 0) rfl
      obtain ⟨zj, e2, b2⟩ := boundE_ok hA hg h2 (n := 0) rfl
      refine (ssub_ok hR hbs e1 e2).mono (fun pe hu1 hr => ⟨_, hr.2, fun w => ?_⟩)
      simp only [Instr.sliceAt, Sem.run_bind, run_underlying hu, Result.andThen_ok, Instr.slice, Option.isSome_none, Bool.false_eq_true, if_false, Sem.run_pure, hs]
      rw [run_bounds2 false (i := zi) (j := zj) (by simpa using b1) (.inr (by rcases b2 with ⟨e, _⟩ | b2; cases e; exact b2)) hr.1.1 hr.1.2.1 (by have := hr.1.2.2; omega) w]
      simp only [Result.andThen_ok, Sem.run_pure]
      rw [extract_take]
     ·cases h
    ·rename_i i h1; cases h
     obtain ⟨zi, e1, b1⟩ := boundE_ok hA hg h1 (n := 0) rfl
     refine Yields.app (p := [.d (.slen x)]) (slen_ok hR hbs) (fun pe hu1 r1 k1 => ?_)
     have hbs' : strV pe x = some bs := by
      cases x <;> simp only [strV] at hbs ⊢ <;> first | exact hbs | exact hu1.ς _ _ hbs | cases hbs
     refine (ssub_ok r1 hbs' (IE.val_up hu1.σ _ _ e1) k1).mono (fun pe2 hu2 hr => ⟨_, hr.2, fun w => ?_⟩)
     simp only [Instr.sliceAt, Sem.run_bind, run_underlying hu, Result.andThen_ok, Instr.slice, Option.isSome_none, Bool.false_eq_true, if_false, Sem.run_pure, hs]
     rw [run_bounds2 false (i := zi) (j := (bs.length : Int)) (by simpa using b1) (.inl ⟨rfl, rfl⟩) hr.1.1 hr.1.2.1 (by omega) w]
     simp only [Result.andThen_ok, Sem.run_pure]
     rw [extract_take]
    ·cases h
  ·cases h
end
end Go.Proofs.YtjabmipkllkfbaaGreatDoor.Vc
namespace Go.Proofs.YtjabmipkllkfbaaGreatDoor.Vc
open Go.RowKit
section
variable {P : Program} {g : G} {V : Env} {s s' : S} {B w : World} {a : A} {A : Act}
theorem nn_ok (h : Rel P V s B w) {b : Nat} {p : Option Addr} (hp : placeV V.τ b = some p) : Yields P B w V s [.d (.nn b)] s (fun _ => p ≠ none) := fun K hK => by
 simp only [preSat, Pre.sat, D.sat, hp] at hK
 exact ⟨V.toPE, UpP.refl _, hK.2, h, hK.1⟩
theorem symIndexAddr_ok (hG : GOk P g) (hR : Rel P V s B w) {t : TypeId} {x i v : AV} {X I : Value} {l : List Pre} (h : symIndexAddr g s t x i = some (l, v, s')) (hX : x.conc V = some X) (hI : i.conc V = some I) :
  Yields P B w V s l s' (fun V' => ∃ R, v.conc V' = some R ∧ ∀ w, (Instr.indexAt t X I).run P w = .ok R w) := by
 unfold symIndexAddr at h
 split at h
 ·rename_i ti b off len cap k e hti
  have hu := (hG.ty _ _ hti).desc
  obtain ⟨p, o, n, c, h1, h2, h3, h4, rfl⟩ := xsV_some hX
  obtain ⟨z, hz, rfl⟩ := conc_int hI
  split at h
  ·rename_i et hd
   rw [hd] at hu
   split at h
   ·rename_i te hte; cases h
    refine (needLe_ok hR (x := .lit 0) rfl hz).app (fun pe hu1 r1 k1 => ?_)
    refine (needLt_ok r1 (IE.val_up hu1.σ _ _ hz) (IE.val_up hu1.σ _ _ (natV_some h3))).app (fun pe2 hu2 r2 k2 => ?_)
    have hup := hu1.trans hu2
    refine (nn_ok r2 (placeV_up hup.τ h1)).mono (fun pe3 hu3 k3 => ?_)
    have hup3 := hup.trans hu3
    obtain ⟨q, rfl⟩ := Option.ne_none_iff_exists'.1 k3
    have hv := addE_val (IE.val_up hup3.σ _ _ (natV_some h2)) (mulE_val (IE.val_up hup3.σ _ _ hz) (show (IE.lit (Int.ofNat te.size)).val pe3.σ = some (te.size : Int) from rfl))
    obtain ⟨m, rfl⟩ := Int.eq_ofNat_of_zero_le k1
    refine ⟨.pointer (some (q.add (o + m * te.size))), ?_, fun w => ?_⟩
    ·have hn := natV_of hv (by have : (0 : Int) ≤ (m : Int) * (te.size : Int) := Int.mul_nonneg (by omega) (by omega); omega)
     simp only [AV.conc, xpV, Env.at_toPE, Env.at_at, placeV_up hup3.τ h1, hn]
     congr 3
    ·have hb : (0 : Int) ≤ (m : Int) ∧ (m : Int) < (n : Int) := ⟨k1, k2⟩
     simp only [Instr.indexAt, asIntOf, Sem.run_bind, Sem.run_pure, Result.andThen_ok, run_underlying hu, Option.map_some, Sem.run_ite, if_pos hb, run_sizeOf' (hG.ty _ _ hte), Int.toNat_natCast, add_add]
   ·cases h
  ·cases h
 ·cases h
theorem symIndex_ok (hG : GOk P g) (hR : Rel P V s B w) {t : TypeId} (hu : P.underlying t = some .string) {x i v : AV} {X I : Value} {l : List Pre} (h : symIndex s x i = some (l, v, s')) (hX : x.conc V = some X) (hI : i.conc V = some I) :
  Yields P B w V s l s' (fun V' => ∃ R, v.conc V' = some R ∧ ∀ w, (Instr.index t X I).run P w = .ok R w) := by
 unfold symIndex at h
 split at h
 ·rename_i k e
  cases cs : isStr x with
  | false => rw [cs] at h; cases h
  | true =>
   rw [cs] at h; simp only [cond_true] at h; cases h
   obtain ⟨bs, hbs, rfl⟩ := isStr_ok cs hX
   obtain ⟨z, hz, rfl⟩ := conc_int hI
   intro K hK
   simp only [preSat, Pre.sat, D.sat, hbs, hz] at hK
   obtain ⟨⟨h1, h2⟩, h3⟩ := hK
   obtain ⟨n, rfl⟩ := Int.eq_ofNat_of_zero_le h1
   simp only [Int.toNat_natCast] at h3
   have b1 : (0 : Int) ≤ ((bs.getD n 0).toNat : Int) := by omega
   have b2 : ((bs.getD n 0).toNat : Int) ≤ 255 := by have := (bs.getD n 0).toNat_lt; omega
   obtain ⟨r1, r2⟩ := relI hR b1 b2
   refine ⟨_, upI _ _, h3 _ rfl b1 b2, r1, _, int_mk r2, fun w => ?_⟩
   have hn : n < bs.length := by omega
   have hs : n < (⟨bs.toArray⟩ : ByteArray).size := by simpa [ByteArray.size] using hn
   have hb2 : (⟨bs.toArray⟩ : ByteArray)[n]? = some (bs.getD n 0) := by
    rw [getElem?_pos (⟨bs.toArray⟩ : ByteArray) n hs]
    congr 1
    simp [List.getElem?_eq_getElem hn]
    rfl
   simp only [Instr.index, asIntOf, Sem.run_bind, Sem.run_pure, Result.andThen_ok, run_underlying hu, if_pos h1, Int.toNat_natCast, hb2]
 ·cases h
theorem cellsAt_spec (hR : Rel P V s B w) {b : Nat} {off : IE} {q : Addr} {o : Nat} (hq : placeV V.τ b = some (some q)) (ho : natV V.σ off = some o) : ∀ (n i : Nat), (∀ j, j < n → ∃ v, memCell V.mem ((q.add o).add (i + j)) = some v ∧ oneV v = some v) →
  ∃ vs : List Value, vs.length = n ∧ concL V (cellsAt b off n i) = some vs ∧ (∀ j x, vs[j]? = some x → memCell V.mem ((q.add o).add (i + j)) = some x) ∧
   ExtRel V ((cellsAt b off n i).filterMap fun | .cl a o => some (a, none, o) | _ => none) ((List.range' i n).zip vs |>.map fun (j, x) => ((q.add o).add j, x)) := by
 intro n
 induction n with
 | zero => intro i _; exact ⟨[], rfl, rfl, fun j x h => by simp at h, trivial⟩
 | succ n ih =>
  intro i h
  obtain ⟨v, h1, h2⟩ := h 0 (by omega)
  rw [Nat.add_zero] at h1
  obtain ⟨vs, e1, e2, e3, e4⟩ := ih (i + 1) (fun j hj => by
   have := h (j + 1) (by omega)
   rwa [show i + (j + 1) = i + 1 + j by omega] at this)
  have hp := plusE_ok i ho
  refine ⟨v :: vs, by simp [e1], concL_mk ?_ e2, fun j x hx => ?_, ?_⟩
  ·show cellV V.toPE b (plusE off i) = some v
   exact cellV_mk hq hp (by rw [← add_add]; exact h1) h2
  ·cases j with
   | zero => simp at hx; subst hx; exact h1
   | succ j => simp at hx; have := e3 j x hx; rwa [show i + 1 + j = i + (j + 1) by omega] at this
  ·simp only [cellsAt, List.filterMap_cons, List.range'_succ, List.zip_cons_cons, List.map_cons]
   exact ⟨⟨q, o + i, hq, hp, by rw [add_add], h1⟩, e4⟩
theorem rowAt_spec (hR : Rel P V s B w) {a : Nat} {ow : Own} (hw : ownGet s.own a = some ow) (hm : ow.m = false) {off : IE} {q : Addr} {o : Nat} {row : List Value} (hq : placeV V.τ a = some (some q)) (hr : lget V.ρ ow.r = some row) (ho : natV V.σ off = some o) : ∀ (n i : Nat), o + i + n ≤ row.length →
  ∃ vs : List Value, vs.length = n ∧ concL V (rowAt ow.r off n i) = some vs ∧ (∀ j x, vs[j]? = some x → w.cell? ((q.add o).add (i + j)) = some x) ∧
   ExtRel V (rowHs a ow.r off n i) ((List.range' i n).zip vs |>.map fun (j, x) => ((q.add o).add j, x)) := by
 intro n
 induction n with
 | zero => intro i _; exact ⟨[], rfl, rfl, fun j x h => by simp at h, trivial⟩
 | succ n ih =>
  intro i h
  obtain ⟨v, h1⟩ : ∃ v, row[o + i]? = some v := ⟨_, List.getElem?_eq_getElem (by omega)⟩
  have h2 := own_one hR hw hm hr v (List.mem_of_getElem? h1)
  obtain ⟨vs, e1, e2, e3, e4⟩ := ih (i + 1) (by omega)
  have hp := plusE_ok i ho
  have hh : HeldAt V a (some ow.r) (plusE off i) ((q.add o).add i) v := ⟨q, o + i, hq, hp, by rw [add_add], row, hr, h1⟩
  refine ⟨v :: vs, by simp [e1], concL_mk ?_ e2, fun j x hx => ?_, ?_⟩
  ·show rowV V.toPE ow.r (plusE off i) = some v
   exact rowV_mk hr hp h1 h2
  ·cases j with
   | zero => simp at hx; subst hx; exact own_cell hR hw hm hh
   | succ j => simp at hx; have := e3 j x hx; rwa [show i + 1 + j = i + (j + 1) by omega] at this
  ·simp only [rowHs, List.range'_succ, List.zip_cons_cons, List.map_cons]
   exact ⟨hh, e4⟩
theorem symLoad_ok (hG : GOk P g) (hR : Rel P V s B w) {t : TypeId} {x v : AV} {X : Value} {l : List Pre} {hs : List HX} (h : symLoad g s t x = some (l, v, s', hs)) (hX : x.conc V = some X) :
  Yields P B w V s l s' (fun V' => ∃ R c, v.conc V' = some R ∧ ExtRel V' hs c ∧ AtW c w ∧ ∀ w', AtW c w' → (Instr.loadAt t X).run P w' = .ok R w') := by
 unfold symLoad at h
 split at h
 ·rename_i ti b off hti
  have hT := hG.ty _ _ hti
  obtain ⟨q, o, h1, h2, rfl⟩ := xpV_some hX
  split at h
  ·rename_i ow how
   cases hm : ow.m with
   | true => rw [hm] at h; cases h
   | false =>
   rw [hm] at h
   simp only [cond_false] at h
   obtain ⟨row, hrow⟩ : ∃ row, lget V.ρ ow.r = some row := by
    obtain ⟨_, l', _, _, _, m2, _⟩ := hR.own.ok ow (ownGet_some how).1
    exact ⟨l', m2⟩
   have fromL : ∀ {vs : List Value} {w' : World}, AtW ((List.range' 0 vs.length).zip vs |>.map fun (j, x) => ((q.add o).add j, x)) w' → ∀ j y, vs[j]? = some y → w'.cell? ((q.add o).add j) = some y := by
    intro vs w' hw j y hy
    have hjl : j < vs.length := (List.getElem?_eq_some_iff.1 hy).1
    refine hw _ y ?_
    simp only [List.mem_map]
    refine ⟨(j, y), ?_, rfl⟩
    refine List.mem_of_getElem? (i := j) ?_
    rw [List.getElem?_zip_eq_some]
    exact ⟨by rw [List.getElem?_range' (by omega)]; simp, hy⟩
   cases c : isAggD ti.desc with
   | true =>
    rw [c] at h; simp only [cond_true] at h; cases h
    intro K hK
    simp only [preSat, Pre.sat, D.sat, hrow, natV_some h2] at hK
    obtain ⟨⟨_, hlen⟩, hK⟩ := hK
    obtain ⟨vs, e1, e2, e3, e4⟩ := rowAt_spec hR how hm h1 hrow h2 ti.size 0 (by omega)
    refine ⟨V.toPE, UpP.refl _, hK, hR, _, _, agg_mk e2, e4, ?_, fun w' hw => ?_⟩
    ·intro p x hm
     simp only [List.mem_map] at hm
     obtain ⟨⟨j, y⟩, hm1, hm2⟩ := hm
     cases hm2
     obtain ⟨i, hi⟩ := List.getElem?_of_mem hm1
     rw [List.getElem?_zip_eq_some] at hi
     obtain ⟨i1, i2⟩ := hi
     have hil : i < vs.length := (List.getElem?_eq_some_iff.1 i2).1
     rw [List.getElem?_range' (by omega)] at i1
     have := Option.some.inj i1
     have e := e3 i _ i2
     rw [show 0 + i = j by omega] at e; exact e
    ·have hcell := fromL (vs := vs) (w' := w') (by rw [e1]; exact hw)
     simp only [Instr.loadAt, Instr.sureAddr, Sem.run_bind, Sem.run_pure, Result.andThen_ok, loadVar, run_isAgg' hT, c, if_true, run_sizeOf' hT, ← e1]
     rw [run_loadCells_list w' (q.add o) vs hcell]
     rfl
   | false =>
    rw [c] at h; simp only [cond_false] at h; cases h
    intro K hK
    simp only [preSat, Pre.sat, D.sat, hrow, natV_some h2] at hK
    obtain ⟨⟨_, hlen⟩, hK⟩ := hK
    obtain ⟨y, y1⟩ : ∃ v, row[o]? = some v := ⟨_, List.getElem?_eq_getElem (by omega)⟩
    have y2 := own_one hR how hm hrow y (List.mem_of_getElem? y1)
    have hh : HeldAt V b (some ow.r) off (q.add o) y := ⟨q, o, h1, h2, rfl, row, hrow, y1⟩
    have hc := own_cell hR how hm hh
    refine ⟨V.toPE, UpP.refl _, hK, hR, y, [(q.add o, y)], ?_, ⟨hh, trivial⟩, ?_, fun w' hw => ?_⟩
    ·show rowV V.toPE ow.r off = some y
     exact rowV_mk hrow h2 y1 y2
    ·intro p x hm
     cases hm with
     | head => exact hc
     | tail _ hm => cases hm
    ·have := hw _ y (List.mem_cons_self ..)
     simp only [Instr.loadAt, Instr.sureAddr, Sem.run_bind, Sem.run_pure, Result.andThen_ok, loadVar, run_isAgg' hT, c, Bool.false_eq_true, if_false, run_load, this]
  ·cases c : isAggD ti.desc with
   | true =>
    rw [c] at h; simp only [cond_true] at h; cases h
    intro K hK
    simp only [preSat, Pre.sat, D.sat, h1, natV_some h2] at hK
    obtain ⟨⟨q', o', e1, e2, hn⟩, hK⟩ := hK
    cases e1
    have e3 : o' = o := by have : (o : Int) = (o' : Int) := e2; omega
    rw [e3] at hn
    obtain ⟨vs, e1, e2, e3, e4⟩ := cellsAt_spec hR h1 h2 ti.size 0 (fun j hj => by rw [Nat.zero_add]; exact hn j hj)
    refine ⟨V.toPE, UpP.refl _, hK, hR, _, _, agg_mk e2, e4, ?_, fun w' hw => ?_⟩
    ·intro p x hm
     simp only [List.mem_map] at hm
     obtain ⟨⟨j, y⟩, hm1, hm2⟩ := hm
     cases hm2
     obtain ⟨i, hi⟩ := List.getElem?_of_mem hm1
     rw [List.getElem?_zip_eq_some] at hi
     obtain ⟨i1, i2⟩ := hi
     have hil : i < vs.length := (List.getElem?_eq_some_iff.1 i2).1
     rw [List.getElem?_range' (by omega)] at i1
     have := Option.some.inj i1
     have e := mem_cell hR (e3 i _ i2)
     rw [show 0 + i = j by omega] at e; exact e
    have hcell : ∀ j y, vs[j]? = some y → w'.cell? ((q.add o).add j) = some y := by
     intro j y hy
     have hjl : j < vs.length := (List.getElem?_eq_some_iff.1 hy).1
     refine hw _ y ?_
     simp only [List.mem_map]
     refine ⟨(j, y), ?_, rfl⟩
     refine List.mem_of_getElem? (i := j) ?_
     rw [List.getElem?_zip_eq_some]
     exact ⟨by rw [List.getElem?_range' (by omega)]; simp, hy⟩
    simp only [Instr.loadAt, Instr.sureAddr, Sem.run_bind, Sem.run_pure, Result.andThen_ok, loadVar, run_isAgg' hT, c, if_true, run_sizeOf' hT, ← e1]
    rw [run_loadCells_list w' (q.add o) vs hcell]
    rfl
   | false =>
    rw [c] at h; simp only [cond_false] at h; cases h
    intro K hK
    simp only [preSat, Pre.sat, D.sat, h1, natV_some h2] at hK
    obtain ⟨⟨q', o', e1, e2, hn⟩, hK⟩ := hK
    cases e1
    have e3 : o' = o := by have : (o : Int) = (o' : Int) := e2; omega
    rw [e3] at hn
    obtain ⟨y, y1, y2⟩ := hn 0 (by omega)
    have hz : (q.add o).add 0 = q.add o := by simp [Addr.add]
    rw [hz] at y1
    refine ⟨V.toPE, UpP.refl _, hK, hR, y, [(q.add o, y)], ?_, ⟨⟨q, o, h1, h2, rfl, y1⟩, trivial⟩, ?_, fun w' hw => ?_⟩
    ·show cellV V.toPE b off = some y
     exact cellV_mk h1 h2 y1 y2
    ·intro p x hm
     cases hm with
     | head => exact mem_cell hR y1
     | tail _ hm => cases hm
    ·have := hw _ y (List.mem_cons_self ..)
     simp only [Instr.loadAt, Instr.sureAddr, Sem.run_bind, Sem.run_pure, Result.andThen_ok, loadVar, run_isAgg' hT, c, Bool.false_eq_true, if_false, run_load, this]
 ·cases h
theorem noHeld_some {r : Sym} {p : List Pre} {v : AV} {hs : List HX} (h : noHeld r = some (p, v, s', hs)) : r = some (p, v, s') ∧ hs = [] := by
 unfold noHeld at h
 split at h
 ·cases h; exact ⟨rfl, rfl⟩
 ·cases h
theorem symA_ok (hG : GOk P g) (hR : Rel P V s B w) (hA : ARel V a A) {o : Oper} {l : List Pre} {v : AV} {hs : List HX} (h : symA g a s o = some (l, v, s', hs)) :
  Yields P B w V s l s' (Out1 P A w o v hs) := by
 have hg := hR.globOk
 have val : ∀ {m : Sem Value} {V' : Env}, hs = [] → (∃ R, v.conc V' = some R ∧ ∀ w, m.run P w = .ok R w) → execOp A.eval o = (do pure (Next.value (← m)) : Sem Next) → Out1 P A w o v hs V' := by
  rintro m V' rfl ⟨R, h1, h2⟩ he
  exact ⟨R, [], h1, trivial, (fun p x h => by cases h), fun w' _ => by rw [he]; simp only [Sem.run_bind, h2, Result.andThen_ok, Sem.run_pure]⟩
 obtain ⟨dst, op, type, pos, after, guard⟩ := o
 unfold symA at h
 simp only at h
 split at h
 ·-- binOp
  rename_i op t x y yt
  split at h
  ·rename_i x' y' hx hy
   obtain ⟨h', rfl⟩ := noHeld_some h; clear h
   exact (symBin_ok hG hR x y h' (evO_ok hA hg hx) (evO_ok hA hg hy)).mono (fun pe hu hr => val rfl hr rfl)
  ·cases h
 ·-- not
  rename_i t x
  split at h
  ·rename_i c hx; cases h
   obtain ⟨z, hz, e⟩ := conc_bx (evO_ok hA hg hx)
   refine Yields.nil hR (val rfl ⟨_, notB_ok (bx_mk hz) (.inr ⟨_, rfl⟩), fun w => ?_⟩ rfl)
   rw [e]; rfl
  ·cases h
 ·-- neg
  rename_i t x
  split at h
  ·rename_i k e hx
   obtain ⟨h', rfl⟩ := noHeld_some h; clear h
   obtain ⟨z, hz, eX⟩ := conc_int (evO_ok hA hg hx)
   refine (symInt_ok (P := P) hR (x := .lit 0) rfl hz 0 h').mono (fun pe hu hr => ?_)
   obtain ⟨R, h1, h2⟩ := hr
   refine val (m := Op.unary .neg (A.eval x)) rfl ⟨R, h1, fun w => ?_⟩ rfl
   rw [eX]
   have := h2 w
   simp only [binOp, ne_eq, not_true, if_false] at this
   exact this
  ·cases h
 ·-- convert
  rename_i t u x
  split at h
  ·rename_i k0 e tu ti hx hu' ht'
   obtain ⟨z, hz, hX⟩ := conc_int (evO_ok hA hg hx)
   have hu := (hG.ty _ _ hu').desc
   have ht := (hG.ty _ _ ht').desc
   split at h
   ·rename_i k hd; cases h
    rw [hd] at hu
    have wr : k.min ≤ k.wrap z ∧ k.wrap z ≤ k.max := by
     cases k <;> simp [IntKind.min, IntKind.max, IntKind.wrap, IntKind.signed, IntKind.bits] <;> (try split) <;> omega
    intro K hK
    simp only [preSat, Pre.sat, D.sat, hz] at hK
    obtain ⟨r1, r2⟩ := relI hR wr.1 wr.2
    refine ⟨_, upI _ _, hK _ rfl wr.1 wr.2, r1, val rfl ⟨_, int_mk r2, fun w => ?_⟩ rfl⟩
    rw [hX]
    simp only [convert, Sem.run_bind, run_underlying ht, run_underlying hu, Result.andThen_ok]
    cases ti.desc <;> rfl
   ·cases h
  ·cases h
 ·-- pick
  rename_i c x y
  split at h
  ·rename_i cb k p k' q hc hx hy
   cases ck : kindEq k k' with
   | false => rw [ck] at h; cases h
   | true =>
    rw [ck] at h; simp only [cond_true] at h; cases h
    have := kindEq_eq ck; subst this
    obtain ⟨zc, hzc, ec⟩ := conc_bx (evO_ok hA hg hc)
    obtain ⟨zx, hzx, ex⟩ := conc_int (evO_ok hA hg hx)
    obtain ⟨zy, hzy, ey⟩ := conc_int (evO_ok hA hg hy)
    intro K hK
    simp only [preSat, Pre.sat, D.sat, hzc, hzx, hzy] at hK
    obtain ⟨h1, h2⟩ := hK _ rfl
    obtain ⟨r1, r2⟩ := relI hR h1.1 h1.2
    refine ⟨_, upI _ _, h2, r1, _, [], int_mk r2, trivial, (fun p x h => by cases h), fun w' _ => ?_⟩
    simp only [execOp, ec, ex, ey, asBool]
    cases zc <;> simp
  ·cases h
 ·-- slice, with a capacity
  rename_i t x lo hi mx
  split at h
  ·rename_i b off len cap i hh m ti hx h1 h2 h3 hti
   split at h
   ·rename_i e hd
    split at h
    ·rename_i te hte
     cases c : (isLit0 i && ile 0 hh && ile hh m && ile m 9223372036854775807) with
     | false => rw [c] at h; cases h
     | true =>
      rw [c] at h; simp only [cond_true] at h; cases h
      exact (symSlice3_ok hG hR hA hti hd hte h1 h2 h3 c (evO_ok hA hg hx)).mono (fun pe hu hr => val rfl hr rfl)
    ·cases h
   ·cases h
  ·cases h
 ·-- slice
  rename_i t x lo hi
  split at h
  ·rename_i x' hx
   obtain ⟨h', rfl⟩ := noHeld_some h; clear h
   exact (symSlice_ok hG hR hA h' (evO_ok hA hg hx)).mono (fun pe hu hr => val rfl hr rfl)
  ·cases h
 ·-- indexAddr
  rename_i t x i
  split at h
  ·rename_i x' i' hx hi
   obtain ⟨h', rfl⟩ := noHeld_some h; clear h
   exact (symIndexAddr_ok hG hR h' (evO_ok hA hg hx) (evO_ok hA hg hi)).mono (fun pe hu hr => val rfl hr rfl)
  ·cases h
 ·-- index
  rename_i t x i
  split at h
  ·rename_i x' i' hx hi
   split at h
   ·rename_i ti hti
    have hu := (hG.ty _ _ hti).desc
    split at h
    ·rename_i hd
     rw [hd] at hu
     obtain ⟨h', rfl⟩ := noHeld_some h; clear h
     exact (symIndex_ok hG hR hu h' (evO_ok hA hg hx) (evO_ok hA hg hi)).mono (fun pe hu hr => val rfl hr rfl)
    ·cases h
   ·cases h
  ·cases h
 ·-- load
  rename_i t x
  split at h
  ·rename_i x' hx
   refine (symLoad_ok hG hR h (evO_ok hA hg hx)).mono (fun pe hu hr => ?_)
   obtain ⟨R, c, h1, h2, hat, h3⟩ := hr
   refine ⟨R, c, h1, h2, hat, fun w' hw => ?_⟩
   simp only [execOp, Sem.run_bind, h3 w' hw, Result.andThen_ok, Sem.run_pure]
  ·cases h
 ·-- a builtin
  rename_i c
  obtain ⟨callee, args, ⟨argTypes⟩⟩ := c
  obtain ⟨h', rfl⟩ := noHeld_some h; clear h
  unfold symCall at h'
  simp only at h'
  have e : (args.map A.eval) = (args.toList.map A.eval).toArray := by apply Array.ext'; simp
  split at h'
  ·rename_i t ts x r has
   obtain ⟨X, xr, exs, hX, _⟩ := concL_cons (evL_ok hA hg has)
   refine (symLen_ok hG hR ts type xr h' hX).mono (fun pe hu hr => val rfl hr ?_)
   simp only [execOp, resolve, pure_bind, invoke, e, exs]
   rfl
  ·rename_i t ts x r has
   obtain ⟨X, xr, exs, hX, _⟩ := concL_cons (evL_ok hA hg has)
   refine (symCap_ok hG hR ts type xr h' hX).mono (fun pe hu hr => val rfl hr ?_)
   simp only [execOp, resolve, pure_bind, invoke, e, exs]
   rfl
  ·rename_i x r has
   obtain ⟨X, xr, exs, hX, hr⟩ := concL_cons (evL_ok hA hg has)
   refine (symMM_ok (P := P) true _ V s s' x v X xr l hR h' hX hr).mono (fun pe hu hr => ?_)
   obtain ⟨R, h1, h2⟩ := hr
   simp only [if_true] at h2
   refine ⟨R, [], h1, trivial, (fun p x h => by cases h), fun w' _ => ?_⟩
   have e3 : ∀ ats : Array TypeId, (Builtin.max_ ats type (X :: xr).toArray).run P w' = .ok R w' := fun _ => h2 w'
   simp only [execOp, resolve, pure_bind, invoke, e, exs]
   show (do pure (Next.value (← Builtin.max_ _ _ _)) : Sem Next).run P w' = _
   simp only [Sem.run_bind, e3, Result.andThen_ok, Sem.run_pure]
  ·rename_i x r has
   obtain ⟨X, xr, exs, hX, hr⟩ := concL_cons (evL_ok hA hg has)
   refine (symMM_ok (P := P) false _ V s s' x v X xr l hR h' hX hr).mono (fun pe hu hr => ?_)
   obtain ⟨R, h1, h2⟩ := hr
   simp only [Bool.false_eq_true, if_false] at h2
   refine ⟨R, [], h1, trivial, (fun p x h => by cases h), fun w' _ => ?_⟩
   have e3 : ∀ ats : Array TypeId, (Builtin.min_ ats type (X :: xr).toArray).run P w' = .ok R w' := fun _ => h2 w'
   simp only [execOp, resolve, pure_bind, invoke, e, exs]
   show (do pure (Next.value (← Builtin.min_ _ _ _)) : Sem Next).run P w' = _
   simp only [Sem.run_bind, e3, Result.andThen_ok, Sem.run_pure]
  ·cases h'
 ·cases h
end
end Go.Proofs.YtjabmipkllkfbaaGreatDoor.Vc
namespace Go.Proofs.YtjabmipkllkfbaaGreatDoor.Vc
open Go.RowKit
theorem ltk_app {α : Type} : ∀ (l r : List α) (n : Nat), l.length = n → ltake n (l ++ r) = some l := by
 intro l
 induction l with
 | nil => intro r n h; subst h; cases r <;> rfl
 | cons x l ih =>
  intro r n h
  subst h
  simp only [List.cons_append, List.length_cons, ltake, ih r l.length rfl]
def litAs : List IntKind → List Int → List AV
 | k :: ks, z :: zs => .int k (.lit z) :: litAs ks zs
 | _, _ => []
def intVs : List IntKind → List Int → List Value
 | k :: ks, z :: zs => .int k z :: intVs ks zs
 | _, _ => []
theorem litAs_app : ∀ (l r : List IntKind) (xs ys : List Int), l.length = xs.length → litAs (l ++ r) (xs ++ ys) = litAs l xs ++ litAs r ys := by
 intro l
 induction l with
 | nil => intro r xs ys h; cases xs with | nil => rfl | cons _ _ => cases h
 | cons k l ih =>
  intro r xs ys h
  cases xs with
  | nil => cases h
  | cons x xs =>
   simp only [List.length_cons, Nat.succ.injEq] at h
   simp only [List.cons_append, litAs, ih r xs ys h]
theorem litAs_len : ∀ (l : List IntKind) (xs : List Int), l.length = xs.length → (litAs l xs).length = l.length := by
 intro l
 induction l with
 | nil => intro xs h; cases xs <;> rfl
 | cons k l ih =>
  intro xs h
  cases xs with
  | nil => cases h
  | cons x xs => simp only [List.length_cons, Nat.succ.injEq] at h; simp only [litAs, List.length_cons, ih xs h]
theorem litAs_conc (V : Env) : ∀ (l : List IntKind) (xs : List Int), concL V (litAs l xs) = some (intVs l xs) := by
 intro l
 induction l with
 | nil => intro xs; exact concL_nil V
 | cons k l ih =>
  intro xs
  cases xs with
  | nil => exact concL_nil V
  | cons x xs => exact concL_mk rfl (ih xs)
theorem kindEq_self (k : IntKind) : kindEq k k = true := by cases k <;> rfl
theorem split_len {α : Type} {l : List α} {a b : Nat} (h : l.length = a + b) : ∃ x y, l = x ++ y ∧ x.length = a ∧ y.length = b :=
 ⟨l.take a, l.drop a, (List.take_append_drop a l).symm, by rw [List.length_take]; omega, by rw [List.length_drop]; omega⟩
theorem decide_app {α : Type} [DecidableEq α] {a b c d : List α} (h : a.length = b.length) : (decide (a = b) && decide (c = d)) = decide (a ++ c = b ++ d) := by
 rw [Bool.eq_iff_iff]
 simp only [Bool.and_eq_true, decide_eq_true_eq]
 constructor
 ·rintro ⟨rfl, rfl⟩; rfl
 ·intro e; exact List.append_inj e h
def EqInts (g : G) (K : Know) (d : Nat) (t : TypeId) (ks : List IntKind) : Prop := ∀ zs ws : List Int, zs.length = ks.length → ws.length = ks.length →
 ∃ ti, g.ty.get t = some ti ∧ (isAggD ti.desc = true → eqT g K d t (.agg (litAs ks zs)) (.agg (litAs ks ws)) = some (decide (zs = ws))) ∧
  (isAggD ti.desc = false → ∃ k z w, ks = [k] ∧ zs = [z] ∧ ws = [w] ∧ eqT g K d t (.int k (.lit z)) (.int k (.lit w)) = some (decide (zs = ws)))
theorem eqInts_fields {g : G} {K : Know} {d : Nat} (ih : ∀ t ks, keyInts g d t = some ks → EqInts g K d t ks) : ∀ (fs : List Field) (o : Nat) (r : List IntKind), keyIntsF (keyInts g d) g fs o = some r →
  ∀ (X Y : List AV) (xs ys : List Int), X.drop o = litAs r xs → Y.drop o = litAs r ys → xs.length = r.length → ys.length = r.length → eqFields (eqT g K d) g X Y fs = some (decide (xs = ys)) := by
 intro fs
 induction fs with
 | nil =>
  intro o r h X Y xs ys _ _ hx hy
  cases h
  rw [List.length_eq_zero_iff.1 hx, List.length_eq_zero_iff.1 hy]
  rfl
 | cons f fs ihf =>
  intro o r h X Y xs ys hX hY hx hy
  simp only [keyIntsF] at h
  cases cn : (f.name == "_") with
  | true => rw [cn] at h; cases h
  | false =>
   rw [cn] at h; simp only [cond_false] at h
   cases co : Nat.beq f.offset o with
   | false => rw [co] at h; cases h
   | true =>
    rw [co] at h; simp only [cond_true] at h
    have hoff : f.offset = o := by simpa [nbeq] using co
    split at h
    ·rename_i l ti hl hti
     cases cs : Nat.beq ti.size (llen l) with
     | false => rw [cs] at h; cases h
     | true =>
      rw [cs] at h; simp only [cond_true] at h
      have hsz : ti.size = l.length := by rw [llen_eq] at cs; simpa [nbeq] using cs
      split at h
      ·rename_i r2 hr2
       cases h
       rw [llen_eq] at hr2
       rw [List.length_append] at hx hy
       obtain ⟨x1, x2, rfl, hx1, hx2⟩ := split_len hx
       obtain ⟨y1, y2, rfl, hy1, hy2⟩ := split_len hy
       rw [litAs_app _ _ _ _ hx1.symm] at hX
       rw [litAs_app _ _ _ _ hy1.symm] at hY
       have lx := litAs_len l x1 hx1.symm
       have ly := litAs_len l y1 hy1.symm
       have dX : X.drop (Nat.add o l.length) = litAs r2 x2 := by
        show X.drop (o + l.length) = _
        rw [← List.drop_drop, hX, ← lx, List.drop_left]
       have dY : Y.drop (Nat.add o l.length) = litAs r2 y2 := by
        show Y.drop (o + l.length) = _
        rw [← List.drop_drop, hY, ← ly, List.drop_left]
       have hrest := ihf (Nat.add o l.length) r2 hr2 X Y x2 y2 dX dY hx2 hy2
       obtain ⟨ti', hti', hagg, hone⟩ := ih f.type l hl x1 y1 hx1 hy1
       rw [hti] at hti'; cases hti'
       have fin : ∀ a b, partT g f.type X f.offset = some a → partT g f.type Y f.offset = some b → eqT g K d f.type a b = some (decide (x1 = y1)) → eqFields (eqT g K d) g X Y (f :: fs) = some (decide (x1 ++ x2 = y1 ++ y2)) := fun a b ha hb he => by
        simp only [eqFields, cn, cond_false, ha, hb, he]
        rw [← decide_app (by omega : x1.length = y1.length)]
        cases hd : decide (x1 = y1) with
        | true => simp only [Bool.true_and]; exact hrest
        | false => simp only [Bool.false_and]
       cases ca : isAggD ti.desc with
       | true =>
        refine fin (.agg (litAs l x1)) (.agg (litAs l y1)) ?_ ?_ (hagg ca)
        ·simp only [partT, hti, ca, cond_true, ldrop_eq, hoff, hX]
         rw [ltk_app _ _ _ (by rw [lx, hsz])]
        ·simp only [partT, hti, ca, cond_true, ldrop_eq, hoff, hY]
         rw [ltk_app _ _ _ (by rw [ly, hsz])]
       | false =>
        obtain ⟨k, z, w, rfl, rfl, rfl, he⟩ := hone ca
        have gX : X[o]? = some (.int k (.lit z)) := by
         have := congrArg (fun l => l[0]?) hX
         simpa [litAs] using this
        have gY : Y[o]? = some (.int k (.lit w)) := by
         have := congrArg (fun l => l[0]?) hY
         simpa [litAs] using this
        refine fin (.int k (.lit z)) (.int k (.lit w)) ?_ ?_ he
        ·simp only [partT, hti, ca, cond_false, lget_eq, hoff, gX]
        ·simp only [partT, hti, ca, cond_false, lget_eq, hoff, gY]
      ·cases h
    ·cases h
theorem eqInts_ok {g : G} {K : Know} : ∀ (d : Nat) (t : TypeId) (ks : List IntKind), keyInts g d t = some ks → EqInts g K d t ks := by
 intro d
 induction d with
 | zero => intro t ks h; cases h
 | succ d ih =>
  intro t ks h zs ws hz hw
  simp only [keyInts] at h
  split at h
  ·rename_i ti hti
   refine ⟨ti, hti, ?_⟩
   split at h
   ·rename_i k hd
    cases h
    refine ⟨(fun ha => by rw [hd] at ha; cases ha), fun _ => ?_⟩
    match zs, ws, hz, hw with
    | [z], [w], _, _ =>
     refine ⟨k, z, w, rfl, rfl, rfl, ?_⟩
     simp only [eqT, hti, hd, kindEq_self, cond_true, eqE, ieq_eq]
     congr 1
     rw [Bool.eq_iff_iff]; simp
   ·rename_i fields hd
    cases cm : memN g.eqs t with
    | false => rw [cm] at h; cases h
    | true =>
     rw [cm] at h; simp only [cond_true] at h
     refine ⟨fun _ => ?_, (fun ha => by rw [hd] at ha; cases ha)⟩
     simp only [eqT, hti, hd, cm, cond_true]
     exact eqInts_fields ih fields.toList 0 ks h _ _ zs ws (by rw [List.drop_zero]) (by rw [List.drop_zero]) hz hw
   ·cases h
  ·cases h
theorem sameInts_ok : ∀ (ks : List IntKind) (zs : List Int) (L : List Value) (c : Bool), ks.length = zs.length → sameInts (intVs ks zs) L = some c → ∃ ws, ks.length = ws.length ∧ L = intVs ks ws ∧ c = decide (zs = ws) := by
 intro ks
 induction ks with
 | nil =>
  intro zs L c h hs
  cases zs with
  | cons _ _ => cases h
  | nil =>
   cases L with
   | nil => cases hs; exact ⟨[], rfl, rfl, by simp⟩
   | cons _ _ => cases hs
 | cons k ks ih =>
  intro zs L c h hs
  cases zs with
  | nil => cases h
  | cons z zs =>
   simp only [List.length_cons, Nat.succ.injEq] at h
   cases L with
   | nil => cases hs
   | cons v L =>
    cases v <;> try (cases hs; done)
    rename_i k' w
    simp only [intVs, sameInts] at hs
    split at hs
    ·rename_i hk; subst hk
     split at hs
     ·rename_i r hr
      cases hs
      obtain ⟨ws, h1, h2, h3⟩ := ih zs L r h hr
      refine ⟨w :: ws, by simp [h1], by rw [h2]; rfl, ?_⟩
      rw [h3, Bool.eq_iff_iff]; simp
     ·cases hs
    ·cases hs
section
variable {P : Program} {g : G} {V : Env}
def KeyV (P : Program) (g : G) (kt : TypeId) (d : TypeDesc) (K : Value) : Prop :=
 (((∃ kk z, K = .int kk z) ∧ ∃ k0, d = .int k0) ∨ ((∃ b, K = .string b) ∧ d = .string)) ∨
 ((∃ fs, d = .struct fs) ∧ (∃ ks zs, keyInts g 100 kt = some ks ∧ ks.length = zs.length ∧ K = .agg (intVs ks zs).toArray) ∧ ∀ e, (∀ w, (Instr.checkKey e 10000 kt K).run P w = .ok () w) ∧ Instr.sameBits 10000 K K = true)
theorem intsA_conc : ∀ (ks : List IntKind) (l : List AV) (vs : List Value), intsA ks l = true → concL V l = some vs → ∃ zs, ks.length = zs.length ∧ vs = intVs ks zs := by
 intro ks
 induction ks with
 | nil =>
  intro l vs h hc
  cases l with
  | nil => cases hc; exact ⟨[], rfl, rfl⟩
  | cons _ _ => cases h
 | cons k ks ih =>
  intro l vs h hc
  cases l with
  | nil => cases h
  | cons v l =>
   cases v <;> try (cases h; done)
   rename_i k' e
   simp only [intsA, Bool.and_eq_true] at h
   obtain ⟨X, xr, rfl, hX, hr⟩ := concL_cons hc
   obtain ⟨z, _, rfl⟩ := conc_int hX
   have := kindEq_eq h.1; subst this
   obtain ⟨zs, h1, h2⟩ := ih l xr h.2 hr
   exact ⟨z :: zs, by simp [h1], by rw [h2]; rfl⟩
theorem keyG_kind (hG : GOk P g) {kt : TypeId} {d : TypeDesc} {k : AV} {K : Value} (h : keyG g kt d k = true) (hK : k.conc V = some K) : KeyV P g kt d K := by
 unfold keyG at h
 split at h
 ·rename_i fs l
  rw [Bool.and_eq_true] at h
  refine .inr ⟨⟨fs, rfl⟩, ?_, fun e => keyPlain_ok hG e 100 kt _ K h.1 hK 10000 (by omega)⟩
  have h2 := h.2
  split at h2
  ·rename_i ks hks
   obtain ⟨vs, rfl, hvs⟩ := conc_agg hK
   obtain ⟨zs, h3, h4⟩ := intsA_conc ks l vs h2 hvs
   exact ⟨ks, zs, hks, h3, by rw [h4]⟩
  ·cases h2
 ·refine .inl ?_
  cases k <;> cases d <;> simp [keyE] at h
  ·obtain ⟨z, _, rfl⟩ := conc_int hK; exact .inl ⟨⟨_, z, rfl⟩, _, rfl⟩
  ·simp only [AV.conc] at hK; cases hK; exact .inr ⟨⟨_, rfl⟩, rfl⟩
  ·obtain ⟨l, _, rfl⟩ := conc_sv hK; exact .inr ⟨⟨_, rfl⟩, rfl⟩
theorem run_equal_ints (hG : GOk P g) {kt : TypeId} {ks : List IntKind} {zs : List Int} {K' : Value} {c : Bool} {d : TypeDesc} (hd : P.underlying kt = some d) (hs : ∃ fs, d = .struct fs) (hk : keyInts g 100 kt = some ks) (hz : ks.length = zs.length)
  (h : sameKey (.agg (intVs ks zs).toArray) K' = some c) (w : World) : (Op.equal kt (.agg (intVs ks zs).toArray) K').run P w = .ok c w ∧ (c = true → K' = .agg (intVs ks zs).toArray) := by
 cases K' <;> try (cases h; done)
 rename_i b
 obtain ⟨b⟩ := b
 obtain ⟨ws, h1, h2, h3⟩ := sameInts_ok ks zs b c hz (by simpa [sameKey] using h)
 subst h2
 obtain ⟨ti, hti, ha, _⟩ := eqInts_ok (K := ⟨[], [], []⟩) 100 kt ks hk zs ws hz.symm h1.symm
 have hT := (hG.ty _ _ hti).desc
 rw [hd] at hT
 obtain ⟨fs, rfl⟩ := hs
 have hag : isAggD ti.desc = true := by
  injection hT with hT
  rw [← hT]; rfl
 have hc1 : (AV.agg (litAs ks zs)).conc ({ σ := [], β := [], ς := [], τ := [], ρ := [], mem := fun _ => none, mem0 := fun _ => none, E := fun _ => none, L := fun _ => none } : Env) = some (.agg (intVs ks zs).toArray) := agg_mk (litAs_conc _ ks zs)
 have hc2 : (AV.agg (litAs ks ws)).conc ({ σ := [], β := [], ς := [], τ := [], ρ := [], mem := fun _ => none, mem0 := fun _ => none, E := fun _ => none, L := fun _ => none } : Env) = some (.agg (intVs ks ws).toArray) := agg_mk (litAs_conc _ ks ws)
 have hko : KnowOk (⟨[], [], []⟩ : Know) ([] : List Int) := by
  exact ⟨rfl, (fun i r h => by simp [lget] at h), (fun a b t h => by cases h), (fun a b t h => by cases h)⟩
 refine ⟨?_, fun ht => ?_⟩
 ·rw [h3]
  exact eqT_ok hG hko 100 kt _ _ _ _ _ (ha hag) hc1 hc2 10000 (by omega) w
 ·rw [h3] at ht
  rw [of_decide_eq_true ht]
end
end Go.Proofs.YtjabmipkllkfbaaGreatDoor.Vc
