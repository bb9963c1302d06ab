/-
  The engine: regions, code, calls (definitions).
-/
import Derived.Test.YtfpfagmmdiohbaaGreatDoorEvDef
set_option linter.unusedVariables false
set_option linter.unusedSimpArgs false
namespace Go.Proofs.YtfpfagmmdiohbaaGreatDoor.Ev

abbrev Lv := List (Nat × LC)
def lvGet : Lv → Nat → Option LC
  | [], _ => none
  | (i, c) :: l, j => bif Nat.beq i j then some c else lvGet l j

inductive Cmd where
  | code (lv : Lv) (rd : Option Nat) (c : Code) (a : A)
  | call (lv : Lv) (f : FuncId) (args : List AV)
  | yield (lv : Lv) (l : Nat) (args : List AV)

abbrev Ih := Cmd → S → Out

/-- Is the operation carried out? -/
def wantedA (all : List Oper) (a : A) (o : Oper) : Option Bool :=
  match o.guard with
  | none => some true
  | some (j, want) =>
    match lget all j with
    | some oj => (match oj.dst with
      | some d => (match a.get d with
        | .bool b => some (b == want)
        | .opq _ => none
        | _ => some false)
      | none => none)
    | none => none

inductive R where
  | ok (a : A) (s : S)
  | err (n : Nat)

def putR (a : A) (o : Oper) (v : AV) (s : S) : R := match a.put o.dst v with | some a => .ok a s | none => .err 50

def doOp (ih : Ih) (lv : Lv) (g : G) (all : List Oper) (o : Oper) (a : A) (s : S) : R :=
  match wantedA all a o with
  | none => .err 51
  | some false => putR a o undefA s
  | some true =>
    match opA g a s o with
    | .val v s => putR a o v s
    | .enter f args => (match ih (.call lv f args) s with | .val v s => putR a o v s | .err n => .err n | _ => .err 52)
    | .yield l args => (match ih (.yield lv l args) s with | .val v s => putR a o v s | .err n => .err n | _ => .err 53)
    | .err n => .err n

def runOps (ih : Ih) (lv : Lv) (g : G) (all : List Oper) : List Oper → A → S → Out
  | [], a, s => .code .normal a s
  | o :: l, a, s => match doOp ih lv g all o a s with
    | .ok a s => runOps ih lv g all l a s
    | .err n => .err n

/-! ### Regions that draw their order -/
def bindsE (e : Edge) : Bool := match e.ground with | .textOnly _ | .gcOnly _ => false | _ => true

def depsOk (mask : Nat) : List Edge → Bool
  | [] => true
  | e :: es => (!bindsE e || Nat.testBit mask e.on) && depsOk mask es
def readyL (mask : Nat) : List (Nat × Oper) → List (Nat × Oper)
  | [] => []
  | (i, o) :: l => bif !Nat.testBit mask i && depsOk mask o.after.toList then (i, o) :: readyL mask l else readyL mask l

def memO (d : Tmp) : List Operand → Bool
  | [] => false
  | .tmp t :: l => Nat.beq t d || memO d l
  | _ :: l => memO d l
def guardLooks (all : List Oper) (d : Tmp) (o : Oper) : Bool :=
  match o.guard with
  | none => false
  | some (g, _) => match lget all g with | some og => (match og.dst with | some t => Nat.beq t d | none => false) | none => false
def looksA (all : List Oper) (d : Tmp) (o : Oper) : Bool := memO d o.op.operands.toList || guardLooks all d o
def apartA (all : List Oper) (x y : Oper) : Bool :=
  (match x.dst with | some d => !looksA all d y && (match y.dst with | some e => !Nat.beq d e | none => true) | none => true) &&
  (match y.dst with | some d => !looksA all d x | none => true)
def edgeOn (i : Nat) : List Edge → Bool
  | [] => false
  | e :: es => (bindsE e && Nat.beq e.on i) || edgeOn i es
def tidyWith (all : List Oper) (i : Nat) (o : Oper) : List (Nat × Oper) → Bool
  | [] => true
  | (j, p) :: l => (Nat.beq i j || edgeOn i p.after.toList || edgeOn j o.after.toList || apartA all o p) && tidyWith all i o l
def noSel : List Oper → Bool
  | [] => true
  | o :: l => (match o.op with | .select .. => false | .defer _ => false | _ => true) && noSel l
def tidyL (all : List Oper) (idx : List (Nat × Oper)) : List (Nat × Oper) → Bool
  | [] => true
  | (i, o) :: l => tidyWith all i o idx && tidyL all idx l
def indexed {α : Type} : Nat → List α → List (Nat × α)
  | _, [] => []
  | i, x :: xs => (i, x) :: indexed (Nat.succ i) xs
/-- Operations that do not wait for one another do not touch one another's temporaries. -/
def tidy (all : List Oper) : Bool := noSel all && tidyL all (indexed 0 all) (indexed 0 all)

/-- A held cell: the operation that has loaded it, the cell, its value. -/
abbrev Held := List (Nat × Nat × Nat × AV)
def heldOf (i id : Nat) : Nat → List AV → Held
  | _, [] => []
  | off, v :: vs => (i, id, off, v) :: heldOf i id (Nat.succ off) vs
def heldOk (s : S) : Held → Bool
  | [] => true
  | (_, id, off, v) :: h => (match loadC s id off 1 with | some [u] => AV.eqb u v | _ => false) && heldOk s h
/-- What need not be held any more behind an operation that waits for the loads. -/
def heldDrop (es : List Edge) : Held → Held
  | [] => []
  | (i, c) :: h => bif edgeOn i es then heldDrop es h else (i, c) :: heldDrop es h

/-- An operation that only computes, or only loads, or is passed over: its value, and the cells that it leans on. -/
def quietA (g : G) (all : List Oper) (a : A) (s : S) (i : Nat) (o : Oper) : Option (AV × Held) :=
  match wantedA all a o with
  | none => none
  | some false => some (undefA, [])
  | some true =>
    match o.op with
    | .load t x => (match evO a s x with
      | some (.ptr id off) => (match g.ty.get t with
        | some ti => (match loadC s id off (bif isAggD ti.desc then ti.size else 1) with
          | some l => bif isAggD ti.desc then some (.agg l, heldOf i id off l) else (match l with | [v] => some (v, heldOf i id off l) | _ => none)
          | none => none)
        | none => none)
      | _ => none)
    | _ => (match pureA g a s o with | some v => some (v, []) | none => none)

def firstQ (g : G) (all : List Oper) (a : A) (s : S) : List (Nat × Oper) → Option (Nat × Oper × AV × Held)
  | [] => none
  | (i, o) :: l => match quietA g all a s i o with | some (v, h) => some (i, o, v, h) | none => firstQ g all a s l

abbrev Rec := List (Nat × Nat)
def recGet : Rec → Nat → Option Nat
  | [], _ => none
  | (i, n) :: l, j => bif Nat.beq i j then some n else recGet l j

def stEq : LoopState → LoopState → Bool
  | .ready, .ready | .busy, .busy | .done, .done | .exhausted, .exhausted => true
  | _, _ => false
def Ex.eqb : Ex → Ex → Bool
  | .normal, .normal | .ret, .ret => true
  | .exit i, .exit j | .goto i, .goto j => Nat.beq i j
  | _, _ => false
def Blk.eqb : Blk → Blk → Bool
  | .cells l e, .cells l' e' => AV.eqbL l l' && Nat.beq e e'
  | .row l e, .row l' e' => AV.eqbL l l' && Nat.beq e e'
  | .ro l, .ro l' => AV.eqbL l l'
  | .map l c, .map l' c' => Nat.beq c c' && mapEqb l l'
  | .defd, .defd => true
  | .dead, .dead => true
  | .loop st p t n d, .loop st' p' t' n' d' => stEq st st' && p.eqb p' && Tr.eqb AV.eqb t t' && Nat.beq n n' && Nat.beq d d'
  | _, _ => false
where mapEqb : List (AV × AV × Nat) → List (AV × AV × Nat) → Bool
  | [], [] => true
  | (a, b, c) :: l, (a', b', c') :: l' => AV.eqb a a' && AV.eqb b b' && Nat.beq c c' && mapEqb l l'
  | _, _ => false

def natsEq : List Nat → List Nat → Bool
  | [], [] => true
  | x :: xs, y :: ys => Nat.beq x y && natsEq xs ys
  | _, _ => false
def sameAS (a : A) (s : S) (a' : A) (s' : S) : Bool :=
  Nat.beq a.n a'.n && natsEq a.marks a'.marks && Tr.eqb AV.eqb a.tmps a'.tmps && Tr.eqb Blk.eqb s.heap s'.heap

inductive AnyR where
  | ok (a : A) (s : S) (r : Rec)
  | err (n : Nat)

/-- All other operations that could come up lead to the same end. -/
def othersOk (f : Nat → Oper → AnyR) (a1 : A) (s2 : S) : List (Nat × Oper) → Bool
  | [] => true
  | (j, oj) :: l => (match f j oj with | .ok a s _ => sameAS a s a1 s2 | .err _ => false) && othersOk f a1 s2 l

def setNext (s : S) (lo : Option Rec) (j : Nat) : S :=
  match lo with
  | some r => (match recGet r j with | some n => { s with next := n } | none => s)
  | none => s
/-- One operation of a drawn region, then the rest. -/
def goAny (ih : Ih) (lv : Lv) (g : G) (all : List Oper) (rec : Nat → A → S → Held → Option Rec → AnyR) (mask : Nat) (a : A) (s : S) (held : Held) (lo : Option Rec) (j : Nat) (oj : Oper) : AnyR :=
  match doOp ih lv g all oj a (setNext s lo j) with
  | .ok a s => bif heldOk s (heldDrop oj.after.toList held) then rec (Nat.lor mask (Nat.shiftLeft 1 j)) a s (heldDrop oj.after.toList held) lo else .err 62
  | .err n => .err n
def addRec (s : S) (lo : Option Rec) (i : Nat) (r : Rec) : Rec := (i, match lo with | some l => (recGet l i).getD s.next | none => s.next) :: r
def loOr (lo : Option Rec) (r : Rec) : Option Rec := match lo with | some l => some l | none => some r

def runAny (ih : Ih) (lv : Lv) (g : G) (all : List Oper) (idx : List (Nat × Oper)) : Nat → Nat → A → S → Held → Option Rec → AnyR
  | 0, mask, a, s, _, _ => (match readyL mask idx with | [] => .ok a s [] | _ => .err 60)
  | fuel + 1, mask, a, s, held, lo =>
    match readyL mask idx with
    | [] => .ok a s []
    | (i0, o0) :: rest =>
      match firstQ g all a s ((i0, o0) :: rest) with
      | some (i, o, v, h) => (match a.put o.dst v with
        | some a => runAny ih lv g all idx fuel (Nat.lor mask (Nat.shiftLeft 1 i)) a s (h ++ held) lo
        | none => .err 61)
      | none =>
        match goAny ih lv g all (runAny ih lv g all idx fuel) mask a s held lo i0 o0 with
        | .err n => .err n
        | .ok a1 s1 r =>
          bif othersOk (goAny ih lv g all (runAny ih lv g all idx fuel) mask a s held (loOr lo (addRec s lo i0 r))) a1 s1 rest then .ok a1 s1 (addRec s lo i0 r) else .err 63

def runDraw (ih : Ih) (lv : Lv) (g : G) (all : List Oper) (a : A) (s : S) : Out :=
  bif tidy all then
    match runAny ih lv g all (indexed 0 all) (llen all) 0 a s [] none with
    | .ok a s _ => .code .normal a s
    | .err n => .err n
  else .err 64

/-! ### Calls -/
def ofArgs : Nat → Tr AV → List AV → Tr AV
  | _, t, [] => t
  | i, t, v :: vs => ofArgs (Nat.succ i) (Tr.set 64 t i v) vs

def resV (g : G) (a : A) (s : S) : List ResultVar → Option (List AV)
  | [] => some []
  | .tmp t :: l => match resV g a s l with | some vs => some (a.get t :: vs) | none => none
  | .cell x t :: l => match a.get x with
    | .ptr id off => (match loadT g s t id off, resV g a s l with | some v, some vs => some (v :: vs) | _, _ => none)
    | _ => none

def takeMarks (s : S) : List Nat → Option S
  | [] => some s
  | d :: ds => match s.heap.get d with
    | some .defd => bif Nat.blt d big then takeMarks { s with heap := Tr.set 64 s.heap d .dead } ds else none
    | _ => none

def setTmps : Tr AV → Nat → List Tmp → List AV → Option (Tr AV)
  | t, _, [], [] => some t
  | t, n, p :: ps, v :: vs => bif Nat.blt p n && Nat.blt p big then setTmps (Tr.set 64 t p v) n ps vs else none
  | _, _, _, _ => none

def step (g : G) (ih : Ih) : Cmd → S → Out
  | .code lv rd c a, s =>
    match c with
    | .skip => .code .normal a s
    | .label _ => .code .normal a s
    | .region _ ops draw => bif draw then runDraw ih lv g ops.toList a s else runOps ih lv g ops.toList ops.toList a s
    | .seq x y => (match ih (.code lv rd x a) s with | .code .normal a s => ih (.code lv rd y a) s | r => r)
    | .cond c x y => (match evO a s c with | some (.bool b) => ih (.code lv rd (bif b then x else y) a) s | _ => .err 70)
    | .block id b => (match ih (.code lv rd b a) s with
      | .code (.exit i) a s => bif Nat.beq i id then .code .normal a s else .code (.exit i) a s
      | r => r)
    | .loop b => (match ih (.code lv rd b a) s with | .code .normal a s => ih (.code lv rd (.loop b) a) s | r => r)
    | .exit id => .code (.exit id) a s
    | .ret => .code .ret a s
    | .rangeFunc f params assign body =>
      (match evO a s f with
       | some (.func (.func k) first captured) =>
         (match g.fn.get k with
          | none => .err (1000 + k)
          | some _ =>
            match (match rd with
              | none => (match newB s .defd with | some (d, s) => some (d, [d], s) | none => none)
              | some l => (match s.heap.get l with | some (.loop _ _ _ _ d) => some (d, [], s) | _ => none)) with
            | none => .err 71
            | some (d, mark, s) =>
              match newB s (.loop .ready .normal a.tmps a.n d) with
              | none => .err 72
              | some (l, s) =>
                match ih (.call ((l, ⟨params, assign, body⟩) :: lv) k ((first ++ [.yield l]) ++ captured)) s with
                | .val _ s => (match s.heap.get l with
                  | some (.loop st pe t n d) =>
                    (match st with
                     | .busy => .err 73
                     | _ =>
                       bif Nat.blt l big then
                         let s := { s with heap := Tr.set 64 s.heap l (.loop .exhausted pe t n d) }
                         let a := { a with marks := mark ++ a.marks }
                         match jumpOf pe with
                         | none => .code .normal a s
                         | some c => ih (.code lv rd c a) s
                       else .err 74)
                  | _ => .err 75)
                | .err n => .err n
                | _ => .err 76)
       | _ => .err 77)
    | _ => .err 78
  | .call lv f args, s =>
    (match g.fn.get f with
     | none => .err (1000 + f)
     | some fi =>
       bif Nat.ble (llen args) fi.ntmps && Nat.ble fi.ntmps 100000 then
         match ih (.code lv none fi.code { tmps := ofArgs 0 .e args, n := fi.ntmps, marks := [] }) s with
         | .code e a s => (match e with
           | .normal | .ret => (match takeMarks s a.marks with
             | some s => (match resV g a s fi.results with
               | some [v] => .val v s
               | some l => .val (.tup l) s
               | none => .err 80)
             | none => .err 81)
           | _ => .err 82)
         | .err n => .err n
         | _ => .err 83
       else .err 84)
  | .yield lv l args, s =>
    (match lvGet lv l, s.heap.get l with
     | some lc, some (.loop .ready _ t n _) =>
       (match setTmps t n lc.params.toList args with
        | none => .err 90
        | some t =>
          match ih (.code lv (some l) lc.assign { tmps := t, n := n, marks := [] }) s with
          | .code .normal a s => (match s.heap.get l with
            | some (.loop .ready pe t n d) =>
              bif Nat.blt l big then
                match ih (.code lv (some l) lc.body a) { s with heap := Tr.set 64 s.heap l (.loop .busy pe t n d) } with
                | .code e _ s => (match s.heap.get l with
                  | some (.loop _ _ t n d) =>
                    (match e with
                     | .normal => .val (.bool true) { s with heap := Tr.set 64 s.heap l (.loop .ready .normal t n d) }
                     | e => .val (.bool false) { s with heap := Tr.set 64 s.heap l (.loop .done e t n d) })
                  | _ => .err 91)
                | .err n => .err n
                | _ => .err 92
              else .err 93
            | _ => .err 94)
          | .err n => .err n
          | _ => .err 95)
     | _, _ => .err 96)

def ev (g : G) : Nat → Cmd → S → Out
  | 0, _, _ => .err 0
  | n + 1, c, s => step g (ev g n) c s

end Go.Proofs.YtfpfagmmdiohbaaGreatDoor.Ev
