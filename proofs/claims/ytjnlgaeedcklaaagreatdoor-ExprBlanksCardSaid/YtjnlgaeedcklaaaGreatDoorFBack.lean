/-
  What the texts of layer 6 (field) compute, as plain Lean functions on lists of bytes and natural numbers. No program in sight.
  Numbers and names at a place: plain facts.
  Where reading numbers, names and items looks: facts about texts. No program in sight.
  Items at other places and in other texts: facts about texts. No program in sight.
  Two fields with a comma; what stands behind the place of an error. No program in sight.
  What stands behind the place of an error does not matter. No program in sight.
  A list of numbers as few ranges with steps. No program in sight.
  What Print, Normal, Full and Name of layer 6 return, as plain Lean functions.
  What is written for a set is read as this set. No program in sight.
-/
set_option linter.unusedVariables false
set_option linter.unusedSimpArgs false
namespace Go.Proofs.YtjnlgaeedcklaaaGreatDoor
namespace Fs

abbrev Bytes := List UInt8

def letterB (c : UInt8) : Bool := (decide (97 ≤ c.toNat) && decide (c.toNat ≤ 122)) || (decide (65 ≤ c.toNat) && decide (c.toNat ≤ 90))
def digitB (c : UInt8) : Bool := decide (48 ≤ c.toNat) && decide (c.toNat ≤ 57)
def upperB (c : UInt8) : Bool := decide (65 ≤ c.toNat) && decide (c.toNat ≤ 90)
/-- A letter in upper case. -/
def up (c : UInt8) : UInt8 := if decide (97 ≤ c.toNat) && decide (c.toNat ≤ 122) then c - 32 else c

/-- How many of the first bytes fulfil a condition, up to most. -/
def span (p : UInt8 → Bool) (most : Nat) (l : Bytes) : Nat := ((l.take most).takeWhile p).length

/-- A kind of fields. -/
structure Kind where
  lo : Int
  hi : Int
  names : List Bytes
  week : Bool

def nameOk (s : Bytes) : Bool := s.all upperB && decide (1 ≤ s.length) && decide (s.length ≤ 9)

/-- The names, from a place on, are texts of letters and none of them is among the first ones. -/
def namesOk (seen : List Bytes) : List Bytes → Bool
  | [] => true
  | s :: l => nameOk s && !(seen.contains s) && namesOk (seen ++ [s]) l

def boundsOk (lo hi : Int) (n : Nat) (week : Bool) : Bool :=
  decide (0 ≤ lo) && decide (lo ≤ hi) && decide (hi ≤ 62) && (!week || (decide (lo = 0) && decide (hi = 6))) && (decide (n = 0) || decide ((n : Int) = hi - lo + 1))

def rangeOk (k : Kind) : Bool := boundsOk k.lo k.hi k.names.length k.week

def checkB (k : Kind) : Bool := rangeOk k && namesOk [] k.names

/-- The error that Check returns. -/
def errOf (b : Bool) : Int := if b then 0 else 2

/-! ### Numbers and names at a place -/
def numOf : Bytes → Nat
  | [] => 0
  | [a] => a.toNat - 48
  | a :: b :: _ => (a.toNat - 48) * 10 + (b.toNat - 48)

/-- One or two digits at a place: the number and how many they are. -/
def numAt (l : Bytes) (at_ : Nat) : Option (Nat × Nat) :=
  let n := span digitB 2 (l.drop at_)
  if n = 0 then none else some (numOf ((l.drop at_).take n), at_ + n)

def idxOf (names : List Bytes) (s : Bytes) : Option Nat := names.findIdx? (· == s)

/-- A number or a name at a place. -/
def valAt (k : Kind) (l : Bytes) (at_ : Nat) : Option (Nat × Nat) :=
  let n := span letterB l.length (l.drop at_)
  if n = 0 then numAt l at_
  else (idxOf k.names (((l.drop at_).take n).map up)).map fun i => (k.lo.toNat + i, at_ + n)

/-- A part of an item: a number and its place. -/
abbrev Part := Option (Nat × Nat)

structure Item where
  star : Bool
  at_ : Nat
  lo : Part
  hi : Part
  step : Part
  deriving DecidableEq

/-- An item that begins at a place. -/
def Item.start (at_ : Nat) : Item := ⟨false, at_, Option.none, Option.none, Option.none⟩

/-- What reading an item, or a field, comes to: a value and the next place, or the place at which it is wrong. -/
inductive Rd (α : Type) where
  | ok (x : α) (next : Nat)
  | bad (at_ : Nat)

def byteAt (l : Bytes) (at_ : Nat) (c : UInt8) : Bool := l[at_]? == some c

/-- The step of an item. -/
def stepAt (l : Bytes) (x : Item) (at_ : Nat) : Rd Item :=
  if byteAt l at_ 47 then
    match numAt l (at_ + 1) with
    | some (n, b) => .ok { x with step := some (n, at_ + 1) } b
    | Option.none => .bad (at_ + 1)
  else .ok x at_

def itemAt (k : Kind) (l : Bytes) (at_ : Nat) : Rd Item :=
  if byteAt l at_ 42 then stepAt l { Item.start at_ with star := true } (at_ + 1)
  else match valAt k l at_ with
    | Option.none => .bad at_
    | some (n, b) =>
      if byteAt l b 45 then
        match valAt k l (b + 1) with
        | Option.none => .bad (b + 1)
        | some (m, c) => stepAt l { Item.start at_ with lo := some (n, at_), hi := some (m, b + 1) } c
      else stepAt l { Item.start at_ with lo := some (n, at_) } b

/-- The items of a field from a place on. -/
def itemsAt (k : Kind) (l : Bytes) : Nat → Nat → Rd (List Item)
  | 0, at_ => .bad at_
  | f + 1, at_ =>
    match itemAt k l at_ with
    | .bad a => .bad a
    | .ok x b =>
      if b = l.length then .ok [x] b
      else if byteAt l b 44 then
        match itemsAt k l f (b + 1) with
        | .bad a => .bad a
        | .ok r c => .ok (x :: r) c
      else .bad b

/-! ### Sets of numbers from 0 to 63, as natural numbers -/
def hasB (a : Nat) (v : Int) : Bool := decide (0 ≤ v) && decide (v ≤ 63) && a.testBit v.toNat

/-- How many times 2 divides a number that is not 0. -/
def tz : Nat → Nat → Nat
  | 0, _ => 0
  | f + 1, x => if x % 2 = 1 then 0 else 1 + tz f (x / 2)

/-- The smallest number of a set from one on. -/
def nextB (s f : Nat) : Option Nat := if s / 2 ^ f = 0 then none else some (f + tz 64 (s / 2 ^ f))

/-- The set of lo, lo + 1 and so on: n numbers. -/
def fill (lo : Nat) : Nat → Nat
  | 0 => 0
  | n + 1 => fill lo n ||| 2 ^ (lo + n)

/-- The set of all numbers of a kind. -/
def full (k : Kind) : Nat := fill k.lo.toNat (k.hi - k.lo + 1).toNat

/-! ### The set of an item -/
def inB (k : Kind) (n : Nat) : Bool := (decide (k.lo ≤ n) && decide ((n : Int) ≤ k.hi)) || (k.week && decide (n = 7))

/-- Where an item is wrong. -/
def wrongAt (k : Kind) (x : Item) : Option Nat :=
  match x.lo, x.hi, x.step with
  | lo, hi, st =>
    if lo.any fun p => !inB k p.1 then lo.map (·.2)
    else if hi.any fun p => !inB k p.1 then hi.map (·.2)
    else if hi.any fun p => lo.any fun q => decide (p.1 < q.1) then lo.map (·.2)
    else if st.any fun p => p.1 == 0 then st.map (·.2)
    else Option.none

def itemLo (k : Kind) (x : Item) : Nat := if x.star then k.lo.toNat else (x.lo.map (·.1)).getD 0
def itemHi (k : Kind) (x : Item) : Nat :=
  if x.star then k.hi.toNat
  else match x.hi with
    | some p => p.1
    | Option.none => if x.step.isSome then max (itemLo k x) k.hi.toNat else itemLo k x
def itemStep (x : Item) : Nat := (x.step.map (·.1)).getD 1

/-- The set of the numbers lo, lo + step and so on, up to hi. -/
def setFrom (week : Bool) (hi step : Nat) : Nat → Nat → Nat → Nat
  | 0, _, s => s
  | f + 1, n, s => if n ≤ hi then setFrom week hi step f (n + step) (s ||| 2 ^ (if week then n % 7 else n)) else s

def itemSet (k : Kind) (x : Item) (s : Nat) : Nat := setFrom k.week (itemHi k x) (itemStep x) (itemHi k x + 1 - itemLo k x) (itemLo k x) s

def setOf (k : Kind) : List Item → Nat → Nat × Option Nat
  | [], s => (s, Option.none)
  | x :: l, s => match wrongAt k x with
    | some a => (0, some a)
    | Option.none => setOf k l (itemSet k x s)

/-- What Parse returns: the set, whether it is a star, the place, the error. -/
def parse (k : Kind) (l : Bytes) : Nat × Bool × Nat × Int :=
  if checkB k then
    match itemsAt k l (l.length + 1) 0 with
    | .bad a => (0, false, a, 10)
    | .ok xs _ => match setOf k xs 0 with
      | (_, some a) => (0, false, a, 2)
      | (s, Option.none) => (s, l == [42], 0, 0)
  else (0, false, 0, 2)

end Fs
end Go.Proofs.YtjnlgaeedcklaaaGreatDoor

namespace Go.Proofs.YtjnlgaeedcklaaaGreatDoor
namespace Fs

theorem span_nil (p : UInt8 → Bool) (m : Nat) : span p m [] = 0 := by simp [span]
theorem span_zero (p : UInt8 → Bool) (l : Bytes) : span p 0 l = 0 := by simp [span]
theorem span_no (p : UInt8 → Bool) (m : Nat) (c : UInt8) (l : Bytes) (h : p c = false) : span p m (c :: l) = 0 := by
  cases m <;> simp [span, h]
theorem span_yes (p : UInt8 → Bool) (m : Nat) (c : UInt8) (l : Bytes) (h : p c = true) : span p (m + 1) (c :: l) = span p m l + 1 := by
  simp [span, h]

theorem drop_at (l : Bytes) (k : Nat) (c : UInt8) (h : l[k]? = some c) : l.drop k = c :: l.drop (k + 1) := by
  obtain ⟨hk, e⟩ := List.getElem?_eq_some_iff.1 h
  rw [List.drop_eq_getElem_cons hk, e]
theorem drop_end (l : Bytes) (k : Nat) (h : l.length ≤ k) : l.drop k = [] := List.drop_eq_nil_of_le h

theorem numAt_end (l : Bytes) (k : Nat) (h : l.length ≤ k) : numAt l k = none := by
  simp [numAt, drop_end l k h, span_nil]
theorem numAt_no (l : Bytes) (k : Nat) (c : UInt8) (h : l[k]? = some c) (hc : digitB c = false) : numAt l k = none := by
  simp [numAt, drop_at l k c h, span_no _ _ _ _ hc]
theorem numAt_one_end (l : Bytes) (k : Nat) (c : UInt8) (h : l[k]? = some c) (hc : digitB c = true) (he : l.length ≤ k + 1) : numAt l k = some (c.toNat - 48, k + 1) := by
  simp [numAt, drop_at l k c h, span_yes _ _ _ _ hc, drop_end l _ he, span_nil, numOf]
theorem numAt_one (l : Bytes) (k : Nat) (c d : UInt8) (h : l[k]? = some c) (hc : digitB c = true) (h2 : l[k + 1]? = some d) (hd : digitB d = false) : numAt l k = some (c.toNat - 48, k + 1) := by
  simp [numAt, drop_at l k c h, span_yes _ _ _ _ hc, drop_at l _ d h2, span_no _ _ _ _ hd, numOf]
theorem numAt_two (l : Bytes) (k : Nat) (c d : UInt8) (h : l[k]? = some c) (hc : digitB c = true) (h2 : l[k + 1]? = some d) (hd : digitB d = true) : numAt l k = some ((c.toNat - 48) * 10 + (d.toNat - 48), k + 2) := by
  simp [numAt, drop_at l k c h, span_yes _ _ _ _ hc, drop_at l _ d h2, span_yes _ _ _ _ hd, span_zero, numOf]

theorem digit_bd {c : UInt8} (h : digitB c = true) : 48 ≤ c.toNat ∧ c.toNat ≤ 57 := by
  simpa [digitB] using h
theorem digit_no {c : UInt8} (h : digitB c = false) : c.toNat < 48 ∨ 57 < c.toNat := by
  simp [digitB] at h; omega

/-! ### The set of an item -/
theorem setFrom_fuel (week : Bool) (hi step : Nat) (hs : 0 < step) : ∀ (f g n s : Nat), hi + 1 - n ≤ f → hi + 1 - n ≤ g → setFrom week hi step f n s = setFrom week hi step g n s := by
  intro f
  induction f with
  | zero =>
    intro g n s h1 h2
    have : ¬ n ≤ hi := by omega
    cases g with
    | zero => rfl
    | succ g => simp [setFrom, this]
  | succ f ih =>
    intro g n s h1 h2
    by_cases hn : n ≤ hi
    · cases g with
      | zero => omega
      | succ g =>
        simp only [setFrom, hn, if_true]
        exact ih g _ _ (by omega) (by omega)
    · cases g with
      | zero => simp [setFrom, hn]
      | succ g => simp [setFrom, hn]
theorem setFrom_step (week : Bool) (hi step n s : Nat) (hs : 0 < step) (hn : n ≤ hi) : setFrom week hi step (hi + 1 - n) n s = setFrom week hi step (hi + 1 - (n + step)) (n + step) (s ||| 2 ^ (if week then n % 7 else n)) := by
  obtain ⟨f, hf⟩ : ∃ f, hi + 1 - n = f + 1 := ⟨hi - n, by omega⟩
  rw [hf]
  simp only [setFrom, hn, if_true]
  exact setFrom_fuel week hi step hs _ _ _ _ (by omega) (by omega)
theorem setFrom_end (week : Bool) (hi step n s : Nat) (hn : hi < n) : setFrom week hi step (hi + 1 - n) n s = s := by
  have : hi + 1 - n = 0 := by omega
  rw [this]; rfl

end Fs
end Go.Proofs.YtjnlgaeedcklaaaGreatDoor

namespace Go.Proofs.YtjnlgaeedcklaaaGreatDoor
namespace Fs

theorem span_iff0 (p : UInt8 → Bool) (r : Bytes) : ∀ (m n : Nat), span p m r = n ↔ (∀ i, i < n → ∃ c, r[i]? = some c ∧ p c = true) ∧ n ≤ m ∧ (n = m ∨ ∀ c, r[n]? = some c → p c = false) := by
  induction r with
  | nil =>
    intro m n
    rw [span_nil]
    constructor
    · rintro rfl; exact ⟨by intro i h; omega, by omega, .inr (by simp)⟩
    · rintro ⟨h, _, _⟩
      rcases n with _ | n
      · rfl
      · obtain ⟨c, hc, _⟩ := h 0 (by omega); simp at hc
  | cons d r ih =>
    intro m n
    rcases m with _ | m
    · rw [span_zero]
      constructor
      · rintro rfl; exact ⟨by intro i h; omega, by omega, .inl rfl⟩
      · rintro ⟨_, h, _⟩; omega
    · cases hd : p d with
      | false =>
        rw [span_no p _ d r hd]
        constructor
        · rintro rfl; exact ⟨by intro i h; omega, by omega, .inr (by intro c hc; simp at hc; subst hc; exact hd)⟩
        · rintro ⟨h, _, _⟩
          rcases n with _ | n
          · rfl
          · obtain ⟨c, hc, hp⟩ := h 0 (by omega); simp at hc; subst hc; rw [hd] at hp; cases hp
      | true =>
        rw [span_yes p m d r hd]
        rcases n with _ | n
        · constructor
          · intro h; omega
          · rintro ⟨_, _, h⟩
            rcases h with h | h
            · omega
            · have := h d (by simp); rw [hd] at this; cases this
        · have := ih m n
          constructor
          · intro h
            obtain ⟨h1, h2, h3⟩ := this.1 (by omega)
            refine ⟨?_, by omega, ?_⟩
            · intro i hi
              rcases i with _ | i
              · exact ⟨d, by simp, hd⟩
              · simpa using h1 i (by omega)
            · rcases h3 with h3 | h3
              · exact .inl (by omega)
              · exact .inr (by simpa using h3)
          · rintro ⟨h1, h2, h3⟩
            have := this.2 ⟨fun i hi => by simpa using h1 (i + 1) (by omega), by omega, by
              rcases h3 with h3 | h3
              · exact .inl (by omega)
              · exact .inr (by simpa using h3)⟩
            omega

theorem span_iff (p : UInt8 → Bool) (m : Nat) (l : Bytes) (a n : Nat) : span p m (l.drop a) = n ↔ (∀ i, i < n → ∃ c, l[a + i]? = some c ∧ p c = true) ∧ n ≤ m ∧ (n = m ∨ ∀ c, l[a + n]? = some c → p c = false) := by
  rw [span_iff0]; simp [List.getElem?_drop]

theorem spanL_iff (p : UInt8 → Bool) (l : Bytes) (a n : Nat) : span p l.length (l.drop a) = n ↔ (∀ i, i < n → ∃ c, l[a + i]? = some c ∧ p c = true) ∧ (∀ c, l[a + n]? = some c → p c = false) := by
  rw [span_iff]
  constructor
  · rintro ⟨h1, h2, h3⟩
    refine ⟨h1, ?_⟩
    rcases h3 with h3 | h3
    · intro c hc
      have := (List.getElem?_eq_some_iff.1 hc).1
      omega
    · exact h3
  · rintro ⟨h1, h2⟩
    refine ⟨h1, ?_, .inr h2⟩
    rcases n with _ | n
    · omega
    · obtain ⟨c, hc, _⟩ := h1 n (by omega)
      have := (List.getElem?_eq_some_iff.1 hc).1
      omega

/-- Two texts agree from a place on (there at another place) on n bytes. -/
def Agree (l l' : Bytes) (a a' n : Nat) : Prop := ∀ i, i < n → l'[a' + i]? = l[a + i]?

theorem Agree.take {l l' : Bytes} {a a' n m : Nat} (h : Agree l l' a a' n) (hm : m ≤ n) : (l'.drop a').take m = (l.drop a).take m := by
  apply List.ext_getElem?
  intro i
  simp only [List.getElem?_take, List.getElem?_drop]
  split
  · exact h i (by omega)
  · rfl
theorem Agree.mono {l l' : Bytes} {a a' n m : Nat} (h : Agree l l' a a' n) (hm : m ≤ n) : Agree l l' a a' m := fun i hi => h i (by omega)
theorem Agree.off {l l' : Bytes} {a a' n : Nat} (h : Agree l l' a a' n) (k m : Nat) (hm : k + m ≤ n) : Agree l l' (a + k) (a' + k) m := fun i hi => by
  rw [Nat.add_assoc, Nat.add_assoc]; exact h (k + i) (by omega)

/-- The byte behind: there is none any more, or one that does not count, or it is the same. -/
def Same (p : UInt8 → Bool) (l l' : Bytes) (b b' : Nat) : Prop := (∀ c, l'[b']? = some c → p c = false) ∨ l'[b']? = l[b]?

theorem span_agree {p : UInt8 → Bool} {m : Nat} {l l' : Bytes} {a a' n : Nat} (h : span p m (l.drop a) = n) (hg : Agree l l' a a' n) (hs : Same p l l' (a + n) (a' + n)) : span p m (l'.drop a') = n := by
  obtain ⟨h1, h2, h3⟩ := (span_iff ..).1 h
  refine (span_iff ..).2 ⟨fun i hi => by rw [hg i hi]; exact h1 i hi, h2, ?_⟩
  rcases h3 with h3 | h3
  · exact .inl h3
  · refine .inr ?_
    rcases hs with hs | hs
    · exact hs
    · rw [hs]; exact h3
theorem spanL_agree {p : UInt8 → Bool} {l l' : Bytes} {a a' n : Nat} (h : span p l.length (l.drop a) = n) (hg : Agree l l' a a' n) (hs : Same p l l' (a + n) (a' + n)) : span p l'.length (l'.drop a') = n := by
  obtain ⟨h1, h3⟩ := (spanL_iff ..).1 h
  refine (spanL_iff ..).2 ⟨fun i hi => by rw [hg i hi]; exact h1 i hi, ?_⟩
  rcases hs with hs | hs
  · exact hs
  · rw [hs]; exact h3

theorem numAt_some {l : Bytes} {a v b : Nat} (h : numAt l a = some (v, b)) : ∃ n, b = a + n ∧ 0 < n ∧ n ≤ 2 ∧ span digitB 2 (l.drop a) = n ∧ v = numOf ((l.drop a).take n) := by
  unfold numAt at h
  simp only at h
  split at h
  · cases h
  · simp only [Option.some.injEq, Prod.mk.injEq] at h
    refine ⟨span digitB 2 (l.drop a), h.2.symm, by omega, ?_, rfl, h.1.symm⟩
    exact ((span_iff digitB 2 l a _).1 rfl).2.1

theorem numAt_mk {l : Bytes} {a n : Nat} (h : span digitB 2 (l.drop a) = n) (hn : 0 < n) : numAt l a = some (numOf ((l.drop a).take n), a + n) := by
  unfold numAt
  simp only [h]
  rw [if_neg (by omega)]

theorem numAt_none {l : Bytes} {a : Nat} : numAt l a = none ↔ ∀ c, l[a]? = some c → digitB c = false := by
  constructor
  · intro h c hc
    cases hd : digitB c with
    | false => rfl
    | true =>
      unfold numAt at h
      simp only at h
      split at h
      · rename_i h0
        have := ((span_iff digitB 2 l a 0).1 h0).2.2
        rcases this with h | h
        · omega
        · have := h c (by simpa using hc); rw [hd] at this; cases this
      · cases h
  · intro h
    have : span digitB 2 (l.drop a) = 0 := (span_iff digitB 2 l a 0).2 ⟨by intro i h; omega, by omega, .inr (by simpa using h)⟩
    unfold numAt
    simp [this]

/-- A number is read at another text that agrees. -/
theorem numAt_agree {l l' : Bytes} {a a' v n : Nat} (h : numAt l a = some (v, a + n)) (hg : Agree l l' a a' n) (hs : Same digitB l l' (a + n) (a' + n)) : numAt l' a' = some (v, a' + n) := by
  obtain ⟨m, hb, h0, h2, hsp, rfl⟩ := numAt_some h
  obtain rfl : n = m := by omega
  rw [numAt_mk (span_agree hsp hg hs) h0, hg.take (Nat.le_refl _)]

theorem valAt_letters {k : Kind} {l : Bytes} {a n : Nat} (h : span letterB l.length (l.drop a) = n) (hn : 0 < n) : valAt k l a = (idxOf k.names (((l.drop a).take n).map up)).map fun i => (k.lo.toNat + i, a + n) := by
  unfold valAt
  simp only [h]
  rw [if_neg (by omega)]
theorem valAt_digits {k : Kind} {l : Bytes} {a : Nat} (h : ∀ c, l[a]? = some c → letterB c = false) : valAt k l a = numAt l a := by
  have : span letterB l.length (l.drop a) = 0 := (spanL_iff letterB l a 0).2 ⟨by intro i h; omega, by simpa using h⟩
  unfold valAt
  simp [this]

theorem digit_letter {c : UInt8} (h : digitB c = true) : letterB c = false := by
  simp only [digitB, letterB, Bool.and_eq_true, decide_eq_true_eq, Bool.or_eq_false_iff, Bool.and_eq_false_iff, decide_eq_false_iff_not] at *
  omega
theorem letter_digit {c : UInt8} (h : letterB c = true) : digitB c = false := by
  cases hd : digitB c with
  | false => rfl
  | true => rw [digit_letter hd] at h; cases h

/-- A byte that is part of a number or a name. -/
def wordB (c : UInt8) : Bool := digitB c || letterB c

theorem wordB_no {c : UInt8} (h : wordB c = false) : digitB c = false ∧ letterB c = false := by simpa [wordB] using h

theorem Same.digits {l l' : Bytes} {b b' : Nat} (h : Same wordB l l' b b') : Same digitB l l' b b' := h.imp (fun h c hc => (wordB_no (h c hc)).1) id
theorem Same.letters {l l' : Bytes} {b b' : Nat} (h : Same wordB l l' b b') : Same letterB l l' b b' := h.imp (fun h c hc => (wordB_no (h c hc)).2) id

theorem valAt_le' {k : Kind} {l : Bytes} {a v b : Nat} (h : valAt k l a = some (v, b)) : a < b ∧ b ≤ l.length := by
  by_cases h0 : span letterB l.length (l.drop a) = 0
  · have : valAt k l a = numAt l a := by unfold valAt; simp [h0]
    rw [this] at h
    obtain ⟨n, hb, hn, _, hsp, _⟩ := numAt_some h
    obtain ⟨c, hc, _⟩ := ((span_iff digitB 2 l a n).1 hsp).1 (n - 1) (by omega)
    have := (List.getElem?_eq_some_iff.1 hc).1
    omega
  · rw [valAt_letters rfl (by omega)] at h
    obtain ⟨i, _, h⟩ := Option.map_eq_some_iff.1 h
    simp only [Prod.mk.injEq] at h
    obtain ⟨c, hc, _⟩ := ((spanL_iff letterB l a _).1 rfl).1 (span letterB l.length (l.drop a) - 1) (by omega)
    have := (List.getElem?_eq_some_iff.1 hc).1
    omega
theorem numAt_le' {l : Bytes} {a v b : Nat} (h : numAt l a = some (v, b)) : a < b ∧ b ≤ l.length := by
  obtain ⟨n, hb, hn, _, hsp, _⟩ := numAt_some h
  obtain ⟨c, hc, _⟩ := ((span_iff digitB 2 l a n).1 hsp).1 (n - 1) (by omega)
  have := (List.getElem?_eq_some_iff.1 hc).1
  omega

theorem valAt_agree {k : Kind} {l l' : Bytes} {a a' v n : Nat} (h : valAt k l a = some (v, a + n)) (hg : Agree l l' a a' n) (hs : Same wordB l l' (a + n) (a' + n)) : valAt k l' a' = some (v, a' + n) := by
  have hle := valAt_le' h
  by_cases h0 : span letterB l.length (l.drop a) = 0
  · have e : valAt k l a = numAt l a := by unfold valAt; simp [h0]
    rw [e] at h
    rw [valAt_digits, numAt_agree h hg hs.digits]
    intro c hc
    rw [← Nat.add_zero a', hg 0 (by omega)] at hc
    exact ((spanL_iff letterB l a 0).1 h0).2 c hc
  · have hn : span letterB l.length (l.drop a) = n := by
      rw [valAt_letters rfl (by omega)] at h
      obtain ⟨i, _, h⟩ := Option.map_eq_some_iff.1 h
      simp only [Prod.mk.injEq] at h
      omega
    rw [valAt_letters hn (by omega)] at h
    rw [valAt_letters (spanL_agree hn hg hs.letters) (by omega), hg.take (Nat.le_refl _)]
    obtain ⟨i, hi, h⟩ := Option.map_eq_some_iff.1 h
    simp only [Prod.mk.injEq] at h
    rw [hi]
    simp only [Option.map_some, Option.some.injEq, Prod.mk.injEq]
    omega

theorem valAt_nil {k : Kind} {l : Bytes} {a : Nat} (h : ∀ c, l[a]? = some c → wordB c = false) : valAt k l a = none := by
  rw [valAt_digits (fun c hc => (wordB_no (h c hc)).2)]
  exact numAt_none.2 (fun c hc => (wordB_no (h c hc)).1)

/-- No number and no name, and no letter there: no digit either. -/
theorem valAt_none_word {k : Kind} {l : Bytes} {a : Nat} (h : valAt k l a = none) (hl : ∀ c, l[a]? = some c → letterB c = false) : ∀ c, l[a]? = some c → wordB c = false := by
  intro c hc
  rw [valAt_digits hl] at h
  simp [wordB, numAt_none.1 h c hc, hl c hc]

end Fs
end Go.Proofs.YtjnlgaeedcklaaaGreatDoor

namespace Go.Proofs.YtjnlgaeedcklaaaGreatDoor
namespace Fs

/-! ### A text that is a part of another one: it ends there, or a comma follows -/
def Full (l l' : Bytes) (d : Nat) : Prop := (∀ i, i < l.length → l'[i + d]? = l[i]?) ∧ (∀ c, l'[l.length + d]? = some c → c = 44)

def shP (d : Nat) : Part → Part := Option.map fun p => (p.1, p.2 + d)
def Item.shift (d : Nat) (x : Item) : Item := ⟨x.star, x.at_ + d, shP d x.lo, shP d x.hi, shP d x.step⟩
def Rd.shift (d : Nat) : Rd Item → Rd Item
  | .ok x b => .ok (x.shift d) (b + d)
  | .bad b => .bad (b + d)
def Rd.shifts (d : Nat) : Rd (List Item) → Rd (List Item)
  | .ok x b => .ok (x.map (·.shift d)) (b + d)
  | .bad b => .bad (b + d)

theorem shP_some (d v p : Nat) : shP d (some (v, p)) = some (v, p + d) := rfl
theorem shP_none (d : Nat) : shP d none = none := rfl

theorem Full.agree {l l' : Bytes} {d a n : Nat} (h : Full l l' d) (hn : a + n ≤ l.length) : Agree l l' a (a + d) n := fun i hi => by
  rw [show a + d + i = a + i + d from by omega]; exact h.1 _ (by omega)
theorem Full.same {l l' : Bytes} {d b : Nat} {p : UInt8 → Bool} (h : Full l l' d) (hb : b ≤ l.length) (hp : p 44 = false) : Same p l l' b (b + d) := by
  rcases Nat.lt_or_ge b l.length with hlt | hge
  · exact .inr (h.1 _ hlt)
  · obtain rfl : b = l.length := by omega
    exact .inl fun c hc => by rw [h.2 c hc]; exact hp
theorem Full.byte {l l' : Bytes} {d b : Nat} {q : UInt8} (h : Full l l' d) (hb : b ≤ l.length) (hq : q ≠ 44) : byteAt l' (b + d) q = byteAt l b q := by
  rcases Nat.lt_or_ge b l.length with hlt | hge
  · rw [byteAt, h.1 _ hlt]; rfl
  · obtain rfl : b = l.length := by omega
    have e : byteAt l l.length q = false := by simp [byteAt]
    rw [e]
    cases hc : l'[l.length + d]? with
    | none => simp [byteAt, hc]
    | some c =>
      have := h.2 c hc
      subst this
      simp [byteAt, hc]
      exact fun e => hq e.symm

def mv (d : Nat) : Option (Nat × Nat) → Option (Nat × Nat) := Option.map fun p => (p.1, p.2 + d)

theorem span_bd {p : UInt8 → Bool} {l : Bytes} {a m : Nat} (ha : a ≤ l.length) : a + span p m (l.drop a) ≤ l.length := by
  rcases Nat.eq_zero_or_pos (span p m (l.drop a)) with h | h
  · omega
  · obtain ⟨c, hc, _⟩ := ((span_iff p m l a _).1 rfl).1 (span p m (l.drop a) - 1) (by omega)
    have := (List.getElem?_eq_some_iff.1 hc).1
    omega

theorem numAt_full {l l' : Bytes} {d a : Nat} (h : Full l l' d) (ha : a ≤ l.length) : numAt l' (a + d) = mv d (numAt l a) := by
  have hb := span_bd (p := digitB) (m := 2) ha
  have e := span_agree (p := digitB) (m := 2) rfl (h.agree hb) (by rw [Nat.add_right_comm]; exact h.same hb rfl)
  unfold numAt
  simp only [e]
  split
  · rfl
  · rw [(h.agree hb).take (Nat.le_refl _)]
    simp only [mv, Option.map_some, Option.some.injEq, Prod.mk.injEq, true_and]
    omega
theorem valAt_full {k : Kind} {l l' : Bytes} {d a : Nat} (h : Full l l' d) (ha : a ≤ l.length) : valAt k l' (a + d) = mv d (valAt k l a) := by
  have hb := span_bd (p := letterB) (m := l.length) ha
  have e := spanL_agree (p := letterB) rfl (h.agree hb) (by rw [Nat.add_right_comm]; exact h.same hb rfl)
  unfold valAt
  simp only [e]
  split
  · exact numAt_full h ha
  · rw [(h.agree hb).take (Nat.le_refl _)]
    cases idxOf k.names (((l.drop a).take (span letterB l.length (l.drop a))).map up) with
    | none => rfl
    | some i =>
      simp only [mv, Option.map_some, Option.some.injEq, Prod.mk.injEq, true_and]
      omega

theorem stepAt_full {l l' : Bytes} {d a : Nat} (x : Item) (h : Full l l' d) (ha : a ≤ l.length) (hx : x.step = none) : stepAt l' (x.shift d) (a + d) = (stepAt l x a).shift d := by
  unfold stepAt
  rw [h.byte ha (by decide)]
  cases hb : byteAt l a 47 with
  | false => simp [Rd.shift]
  | true =>
    have hlt : a < l.length := by
      rcases Nat.lt_or_ge a l.length with h | h
      · exact h
      · rw [byteAt, List.getElem?_eq_none h] at hb; simp at hb
    rw [show a + d + 1 = a + 1 + d from by omega, numAt_full h hlt]
    simp only [if_true]
    cases numAt l (a + 1) with
    | none => rfl
    | some p => rfl

theorem byte_lt {l : Bytes} {a : Nat} {q : UInt8} (hb : byteAt l a q = true) : a < l.length := by
  rcases Nat.lt_or_ge a l.length with h | h
  · exact h
  · rw [byteAt, List.getElem?_eq_none h] at hb; simp at hb

theorem itemAt_full {k : Kind} {l l' : Bytes} {d a : Nat} (h : Full l l' d) (ha : a ≤ l.length) : itemAt k l' (a + d) = (itemAt k l a).shift d := by
  unfold itemAt
  rw [h.byte ha (by decide), valAt_full h ha]
  cases hs : byteAt l a 42 with
  | true =>
    have := byte_lt hs
    simp only [if_true]
    rw [show a + d + 1 = a + 1 + d from by omega]
    exact stepAt_full { Item.start a with star := true } h this rfl
  | false =>
    simp only [Bool.false_eq_true, if_false]
    cases hv : valAt k l a with
    | none => rfl
    | some p =>
      obtain ⟨n, b⟩ := p
      have hb := valAt_le' hv
      simp only [mv, Option.map_some]
      rw [h.byte hb.2 (by decide)]
      cases hm : byteAt l b 45 with
      | false =>
        simp only [Bool.false_eq_true, if_false]
        exact stepAt_full { Item.start a with lo := some (n, a) } h hb.2 rfl
      | true =>
        have hblt := byte_lt hm
        simp only [if_true]
        rw [show b + d + 1 = b + 1 + d from by omega, valAt_full h hblt]
        cases hv2 : valAt k l (b + 1) with
        | none => rfl
        | some q =>
          obtain ⟨m, c⟩ := q
          have hc := valAt_le' hv2
          simp only [mv, Option.map_some]
          exact stepAt_full { Item.start a with lo := some (n, a), hi := some (m, b + 1) } h hc.2 rfl

/-! ### The items from a place on, with just the fuel that is needed -/
theorem stepAt_le {l : Bytes} {x y : Item} {a b : Nat} (h : stepAt l x a = .ok y b) (ha : a ≤ l.length) : a ≤ b ∧ b ≤ l.length := by
  unfold stepAt at h
  cases hb : byteAt l a 47 with
  | false => rw [hb] at h; simp only [Bool.false_eq_true, if_false] at h; injection h with _ h; omega
  | true =>
    rw [hb] at h
    simp only [if_true] at h
    cases hn : numAt l (a + 1) with
    | none => rw [hn] at h; cases h
    | some p =>
      rw [hn] at h
      obtain ⟨n, c⟩ := p
      have := numAt_le' hn
      injection h with _ h
      omega
theorem itemAt_le {k : Kind} {l : Bytes} {x : Item} {a b : Nat} (h : itemAt k l a = .ok x b) : a < b ∧ b ≤ l.length := by
  unfold itemAt at h
  cases hs : byteAt l a 42 with
  | true =>
    rw [hs] at h
    have := stepAt_le h (byte_lt hs)
    omega
  | false =>
    rw [hs] at h
    simp only [Bool.false_eq_true, if_false] at h
    cases hv : valAt k l a with
    | none => rw [hv] at h; cases h
    | some p =>
      obtain ⟨n, c⟩ := p
      have hc := valAt_le' hv
      rw [hv] at h
      simp only at h
      cases hm : byteAt l c 45 with
      | false =>
        rw [hm] at h
        have := stepAt_le h hc.2
        omega
      | true =>
        rw [hm] at h
        simp only [if_true] at h
        cases hv2 : valAt k l (c + 1) with
        | none => rw [hv2] at h; cases h
        | some q =>
          obtain ⟨m, e⟩ := q
          have he := valAt_le' hv2
          rw [hv2] at h
          have := stepAt_le h he.2
          omega

def appR (xs : List Item) : Rd (List Item) → Rd (List Item)
  | .ok r b => .ok (xs ++ r) b
  | .bad a => .bad a
theorem appR_appR (xs ys : List Item) (r : Rd (List Item)) : appR xs (appR ys r) = appR (xs ++ ys) r := by
  cases r <;> simp [appR]

theorem itemsAt_one (k : Kind) (l : Bytes) (f a : Nat) :
    itemsAt k l (f + 1) a = match itemAt k l a with
      | .bad b => .bad b
      | .ok x b => if b = l.length then .ok [x] b else if byteAt l b 44 then appR [x] (itemsAt k l f (b + 1)) else .bad b := by
  rw [itemsAt]
  cases itemAt k l a with
  | bad b => rfl
  | ok x b =>
    simp only
    split
    · rfl
    · split
      · cases itemsAt k l f (b + 1) <;> rfl
      · rfl

theorem itemsAt_fuel (k : Kind) (l : Bytes) : ∀ (f g a : Nat), a ≤ l.length → l.length + 1 ≤ f + a → l.length + 1 ≤ g + a → itemsAt k l f a = itemsAt k l g a := by
  intro f
  induction f with
  | zero => intro g a h1 h2; omega
  | succ f ih =>
    intro g a h1 h2 h3
    obtain ⟨g, rfl⟩ : ∃ g', g = g' + 1 := ⟨g - 1, by omega⟩
    rw [itemsAt_one, itemsAt_one]
    cases hi : itemAt k l a with
    | bad b => rfl
    | ok x b =>
      have := itemAt_le hi
      simp only
      split
      · rfl
      · split
        · rename_i hb
          rw [ih g (b + 1) (by have := byte_lt hb; omega) (by omega) (by omega)]
        · rfl

def reads (k : Kind) (l : Bytes) (a : Nat) : Rd (List Item) := itemsAt k l (l.length + 1) a

theorem reads_one (k : Kind) (l : Bytes) (a : Nat) (ha : a ≤ l.length) :
    reads k l a = match itemAt k l a with
      | .bad b => .bad b
      | .ok x b => if b = l.length then .ok [x] b else if byteAt l b 44 then appR [x] (reads k l (b + 1)) else .bad b := by
  unfold reads
  rw [itemsAt_one]
  cases hi : itemAt k l a with
  | bad b => rfl
  | ok x b =>
    have := itemAt_le hi
    simp only
    split
    · rfl
    · split
      · rename_i hb
        rw [itemsAt_fuel k l l.length (l.length + 1) (b + 1) (by have := byte_lt hb; omega) (by omega) (by omega)]
      · rfl

theorem full_app (s t : Bytes) : Full s (s ++ 44 :: t) 0 :=
  ⟨fun i hi => by simp [List.getElem?_append_left hi], fun c hc => by simpa using hc.symm⟩
theorem full_shift (u t : Bytes) : Full t (u ++ t) u.length :=
  ⟨fun i _ => by rw [List.getElem?_append_right (by omega), Nat.add_sub_cancel], fun c hc => by
    rw [List.getElem?_append_right (by omega), Nat.add_sub_cancel] at hc
    simp at hc⟩

theorem shP_zero (p : Part) : shP 0 p = p := by cases p <;> rfl
theorem shift_zero (x : Item) : x.shift 0 = x := by
  simp [Item.shift, shP_zero]
theorem rd_shift_zero (r : Rd Item) : r.shift 0 = r := by cases r <;> simp [Rd.shift, shift_zero]

/-- Two texts with a comma between them. -/
theorem reads_join (k : Kind) (s t : Bytes) : ∀ (n a : Nat), a ≤ s.length → s.length ≤ n + a →
    reads k (s ++ 44 :: t) a = match reads k s a with
      | .ok xs _ => appR xs (reads k (s ++ 44 :: t) (s.length + 1))
      | .bad b => .bad b := by
  intro n
  induction n with
  | zero =>
    intro a h1 h2
    rw [reads_one _ _ _ (by simp; omega), reads_one k s a h1]
    have := itemAt_full (k := k) (full_app s t) h1
    rw [Nat.add_zero, rd_shift_zero] at this
    rw [this]
    cases hi : itemAt k s a with
    | bad b => rfl
    | ok x b => have := itemAt_le hi; omega
  | succ n ih =>
    intro a h1 h2
    rw [reads_one _ _ _ (by simp; omega), reads_one k s a h1]
    have := itemAt_full (k := k) (full_app s t) h1
    rw [Nat.add_zero, rd_shift_zero] at this
    rw [this]
    cases hi : itemAt k s a with
    | bad b => rfl
    | ok x b =>
      have hb := itemAt_le hi
      simp only
      have hne : b ≠ (s ++ 44 :: t).length := by simp; omega
      rw [if_neg hne]
      rcases Nat.lt_or_ge b s.length with hlt | hge
      · rw [if_neg (show b ≠ s.length by omega)]
        have e : byteAt (s ++ 44 :: t) b 44 = byteAt s b 44 := by simp [byteAt, List.getElem?_append_left hlt]
        rw [e]
        split
        · rw [ih (b + 1) hlt (by omega)]
          cases reads k s (b + 1) with
          | bad c => rfl
          | ok xs c => exact appR_appR [x] xs _
        · rfl
      · obtain rfl : b = s.length := by omega
        have e : byteAt (s ++ 44 :: t) s.length 44 = true := by simp [byteAt]
        rw [e, if_pos rfl, if_pos rfl]

/-- A text behind another one. -/
theorem reads_shift (k : Kind) (u t : Bytes) : ∀ (n a : Nat), a ≤ t.length → t.length ≤ n + a → reads k (u ++ t) (a + u.length) = (reads k t a).shifts u.length := by
  intro n
  induction n with
  | zero =>
    intro a h1 h2
    rw [reads_one _ _ _ (by simp; omega), reads_one k t a h1, itemAt_full (full_shift u t) h1]
    cases hi : itemAt k t a with
    | bad b => rfl
    | ok x b => have := itemAt_le hi; omega
  | succ n ih =>
    intro a h1 h2
    rw [reads_one _ _ _ (by simp; omega), reads_one k t a h1, itemAt_full (full_shift u t) h1]
    cases hi : itemAt k t a with
    | bad b => rfl
    | ok x b =>
      have hb := itemAt_le hi
      simp only [Rd.shift]
      by_cases hbt : b = t.length
      · subst hbt
        rw [if_pos (by simp; omega), if_pos rfl]
        rfl
      · rw [if_neg (by simp; omega), if_neg hbt]
        have e : byteAt (u ++ t) (b + u.length) 44 = byteAt t b 44 := by
          rw [byteAt, (full_shift u t).1 b (by omega)]; rfl
        rw [e]
        split
        · rw [show b + u.length + 1 = b + 1 + u.length from by omega, ih (b + 1) (by omega) (by omega)]
          cases reads k t (b + 1) <;> simp [Rd.shifts, appR]
        · rfl

theorem reads_comma (k : Kind) (s t : Bytes) : reads k (s ++ 44 :: t) 0 = match reads k s 0 with
      | .ok xs _ => appR xs ((reads k t 0).shifts (s.length + 1))
      | .bad b => .bad b := by
  rw [reads_join k s t s.length 0 (by omega) (by omega)]
  have := reads_shift k (s ++ [44]) t t.length 0 (by omega) (by omega)
  simp only [List.append_assoc, List.cons_append, List.nil_append, Nat.zero_add, List.length_append, List.length_cons, List.length_nil] at this
  rw [this]

end Fs
end Go.Proofs.YtjnlgaeedcklaaaGreatDoor

namespace Go.Proofs.YtjnlgaeedcklaaaGreatDoor
namespace Fs

/-! ### Sets of items at other places -/
theorem wrongAt_shift (k : Kind) (d : Nat) (x : Item) : wrongAt k (x.shift d) = (wrongAt k x).map (· + d) := by
  obtain ⟨star, at_, lo, hi, st⟩ := x
  have e : ∀ (c : Bool) (x y : Option Nat), Option.map (· + d) (if c = true then x else y) = if c = true then x.map (· + d) else y.map (· + d) := by intro c x y; cases c <;> rfl
  rcases lo with _ | ⟨n, a⟩ <;> rcases hi with _ | ⟨m, b⟩ <;> rcases st with _ | ⟨s, c⟩ <;> simp only [wrongAt, Item.shift, shP, Option.map_some, Option.map_none, Option.any_some, Option.any_none, e] <;> rfl

theorem itemSet_shift (k : Kind) (d : Nat) (x : Item) (s : Nat) : itemSet k (x.shift d) s = itemSet k x s := by
  obtain ⟨star, at_, lo, hi, st⟩ := x
  rcases lo with _ | ⟨n, a⟩ <;> rcases hi with _ | ⟨m, b⟩ <;> rcases st with _ | ⟨s, c⟩ <;> rfl

theorem setOf_shift (k : Kind) (d : Nat) (xs : List Item) (s : Nat) : setOf k (xs.map (·.shift d)) s = ((setOf k xs s).1, (setOf k xs s).2.map (· + d)) := by
  induction xs generalizing s with
  | nil => rfl
  | cons x xs ih =>
    simp only [List.map_cons, setOf, wrongAt_shift]
    cases wrongAt k x with
    | none => simp only [Option.map_none, itemSet_shift]; exact ih _
    | some a => rfl

theorem setFrom_or (week : Bool) (hi st : Nat) : ∀ (f n s t : Nat), setFrom week hi st f n (s ||| t) = s ||| setFrom week hi st f n t := by
  intro f
  induction f with
  | zero => intro n s t; rfl
  | succ f ih =>
    intro n s t
    simp only [setFrom]
    split
    · rw [Nat.or_assoc, ih]
    · rfl
theorem itemSet_or (k : Kind) (x : Item) (s : Nat) : itemSet k x s = s ||| itemSet k x 0 := by
  have := setFrom_or k.week (itemHi k x) (itemStep x) (itemHi k x + 1 - itemLo k x) (itemLo k x) s 0
  rw [Nat.or_zero] at this
  exact this

theorem setOf_or (k : Kind) (xs : List Item) (s : Nat) : setOf k xs s = match setOf k xs 0 with
    | (_, some a) => (0, some a)
    | (b, none) => (s ||| b, none) := by
  induction xs generalizing s with
  | nil => simp [setOf]
  | cons x xs ih =>
    simp only [setOf]
    cases wrongAt k x with
    | some a => rfl
    | none =>
      simp only
      rw [ih (itemSet k x s), ih (itemSet k x 0), itemSet_or k x s]
      rcases setOf k xs 0 with ⟨b, _ | a⟩
      · simp [Nat.or_assoc]
      · rfl

theorem setOf_app (k : Kind) (xs ys : List Item) (s : Nat) : setOf k (xs ++ ys) s = match setOf k xs s with
    | (_, some a) => (0, some a)
    | (b, none) => setOf k ys b := by
  induction xs generalizing s with
  | nil => rfl
  | cons x xs ih =>
    simp only [List.cons_append, setOf]
    cases wrongAt k x with
    | some a => rfl
    | none => exact ih _

theorem setOf_fst (k : Kind) (xs : List Item) (s a : Nat) (h : (setOf k xs s).2 = some a) : setOf k xs s = (0, some a) := by
  induction xs generalizing s with
  | nil => cases h
  | cons x xs ih =>
    simp only [setOf] at h ⊢
    cases hw : wrongAt k x with
    | some b => rw [hw] at h; simp only at h ⊢; rw [h]
    | none => rw [hw] at h; exact ih _ h

theorem parse_reads (k : Kind) (l : Bytes) (hk : checkB k = true) : parse k l = match reads k l 0 with
    | .bad a => (0, false, a, 10)
    | .ok xs _ => match setOf k xs 0 with
      | (_, some a) => (0, false, a, 2)
      | (s, none) => (s, l == [42], 0, 0) := by
  unfold parse reads
  rw [if_pos hk]
  all_goals
    rcases itemsAt k l (l.length + 1) 0 with ⟨xs, b⟩ | b
    · rcases hx : setOf k xs 0 with ⟨c, _ | c⟩ <;> rfl
    · rfl

/-- **Two fields with a comma between them.** -/
theorem parse_comma (k : Kind) (s t : Bytes) (hk : checkB k = true) (a at_ b on : Nat) (star is : Bool) (e f : Int) (hs : parse k s = (a, star, at_, e)) (ht : parse k t = (b, is, on, f)) :
    parse k (s ++ 44 :: t) = if e = 0 ∧ f = 0 then (a ||| b, false, 0, 0) else if e = 0 ∨ (f = 10 ∧ e = 2) then (0, false, on + (s.length + 1), f) else (0, false, at_, e) := by
  have hne : (s ++ 44 :: t == [42]) = false := by
    rw [beq_eq_false_iff_ne]
    intro h
    rcases s with _ | ⟨c, s⟩
    · simp at h
    · have := congrArg List.length h
      simp at this
  rw [parse_reads k _ hk] at hs ht ⊢
  rw [reads_comma, hne]
  cases hrs : reads k s 0 with
  | bad p =>
    rw [hrs] at hs
    simp only [Prod.mk.injEq] at hs
    obtain ⟨rfl, rfl, rfl, rfl⟩ := hs
    simp
  | ok xs p =>
    rw [hrs] at hs
    simp only at hs ⊢
    cases hrt : reads k t 0 with
    | bad q =>
      rw [hrt] at ht
      simp only [Prod.mk.injEq] at ht
      obtain ⟨rfl, rfl, rfl, rfl⟩ := ht
      simp only [Rd.shifts, appR]
      have : e = 0 ∨ e = 2 := by
        rcases hx : setOf k xs 0 with ⟨c, _ | c⟩ <;> rw [hx] at hs <;> simp only [Prod.mk.injEq] at hs
        · exact .inl hs.2.2.2.symm
        · exact .inr hs.2.2.2.symm
      rcases this with rfl | rfl <;> simp
    | ok ys q =>
      rw [hrt] at ht
      simp only at ht
      simp only [Rd.shifts, appR, setOf_app]
      rcases hx : setOf k xs 0 with ⟨c, _ | c⟩
      · rw [hx] at hs
        simp only [Prod.mk.injEq] at hs
        obtain ⟨rfl, _, rfl, rfl⟩ := hs
        simp only
        rw [setOf_shift, setOf_or]
        rcases hy : setOf k ys 0 with ⟨d, _ | d⟩
        · rw [hy] at ht
          simp only [Prod.mk.injEq] at ht
          obtain ⟨rfl, _, rfl, rfl⟩ := ht
          simp
        · rw [hy] at ht
          simp only [Prod.mk.injEq] at ht
          obtain ⟨rfl, _, rfl, rfl⟩ := ht
          simp
      · rw [hx] at hs
        simp only [Prod.mk.injEq] at hs
        obtain ⟨rfl, _, rfl, rfl⟩ := hs
        simp only
        rcases hy : setOf k ys 0 with ⟨d, _ | d⟩
        · rw [hy] at ht
          simp only [Prod.mk.injEq] at ht
          obtain ⟨_, _, _, rfl⟩ := ht
          simp
        · rw [hy] at ht
          simp only [Prod.mk.injEq] at ht
          obtain ⟨_, _, _, rfl⟩ := ht
          simp

end Fs
end Go.Proofs.YtjnlgaeedcklaaaGreatDoor

namespace Go.Proofs.YtjnlgaeedcklaaaGreatDoor
namespace Fs

/-- Two texts agree up to a place. -/
def Upto (l l' : Bytes) (b : Nat) : Prop := ∀ i, i < b → l'[i]? = l[i]?
theorem Upto.mono {l l' : Bytes} {b c : Nat} (h : Upto l l' b) (hc : c ≤ b) : Upto l l' c := fun i hi => h i (by omega)
theorem Upto.agree {l l' : Bytes} {b a n : Nat} (h : Upto l l' b) (hn : a + n ≤ b) : Agree l l' a a n := fun i hi => h _ (by omega)
theorem Upto.byte {l l' : Bytes} {b i : Nat} {q : UInt8} (h : Upto l l' b) (hi : i < b) : byteAt l' i q = byteAt l i q := by rw [byteAt, h i hi]; rfl

/-- A byte that may go on with an item. -/
def contB (c : UInt8) : Bool := wordB c || c == 45 || c == 47
theorem contB_no {c : UInt8} (h : contB c = false) : wordB c = false ∧ c ≠ 45 ∧ c ≠ 47 := by
  simp only [contB, Bool.or_eq_false_iff, beq_eq_false_iff_ne] at h
  exact ⟨h.1.1, h.1.2, h.2⟩
theorem Same.word {l l' : Bytes} {b b' : Nat} (h : Same contB l l' b b') : Same wordB l l' b b' := h.imp (fun h c hc => (contB_no (h c hc)).1) id
theorem Same.noByte {l l' : Bytes} {b b' : Nat} {q : UInt8} (h : Same contB l l' b b') (hq : q = 45 ∨ q = 47) (hb : byteAt l b q = false) : byteAt l' b' q = false := by
  rcases h with h | h
  · cases hc : l'[b']? with
    | none => simp [byteAt, hc]
    | some c =>
      have := contB_no (h c hc)
      rcases hq with rfl | rfl <;> simp [byteAt, hc, this]
  · rw [byteAt, h]; exact hb

theorem numAt_loc {l l' : Bytes} {a v b : Nat} (h : numAt l a = some (v, b)) (hu : Upto l l' b) (hs : Same wordB l l' b b) : numAt l' a = some (v, b) := by
  have hb := numAt_le' h
  obtain ⟨n, rfl⟩ : ∃ n, b = a + n := ⟨b - a, by omega⟩
  exact numAt_agree h (hu.agree (Nat.le_refl _)) hs.digits
theorem valAt_loc {k : Kind} {l l' : Bytes} {a v b : Nat} (h : valAt k l a = some (v, b)) (hu : Upto l l' b) (hs : Same wordB l l' b b) : valAt k l' a = some (v, b) := by
  have hb := valAt_le' h
  obtain ⟨n, rfl⟩ : ∃ n, b = a + n := ⟨b - a, by omega⟩
  exact valAt_agree h (hu.agree (Nat.le_refl _)) hs

theorem stepAt_loc {l l' : Bytes} {x y : Item} {a b : Nat} (h : stepAt l x a = .ok y b) (hu : Upto l l' b) (hs : Same contB l l' b b) : stepAt l' x a = .ok y b := by
  unfold stepAt at h ⊢
  cases hb : byteAt l a 47 with
  | false =>
    rw [hb] at h
    simp only [Bool.false_eq_true, if_false] at h
    injection h with h1 h2
    subst h1 h2
    rw [hs.noByte (.inr rfl) hb]
    rfl
  | true =>
    rw [hb] at h
    simp only [if_true] at h
    cases hn : numAt l (a + 1) with
    | none => rw [hn] at h; cases h
    | some p =>
      obtain ⟨n, c⟩ := p
      rw [hn] at h
      injection h with h1 h2
      subst h1 h2
      have := numAt_le' hn
      rw [hu.byte (by omega), hb, if_pos rfl, numAt_loc hn hu hs.word]

/-- An item is read the same if what follows is the same, or cannot go on with it. -/
theorem itemAt_loc {k : Kind} {l l' : Bytes} {x : Item} {a b : Nat} (h : itemAt k l a = .ok x b) (hu : Upto l l' b) (hs : Same contB l l' b b) : itemAt k l' a = .ok x b := by
  have hle := itemAt_le h
  unfold itemAt at h ⊢
  rw [hu.byte (by omega)]
  cases hst : byteAt l a 42 with
  | true =>
    rw [hst] at h
    simp only [if_true] at h ⊢
    exact stepAt_loc h hu hs
  | false =>
    rw [hst] at h
    simp only [Bool.false_eq_true, if_false] at h ⊢
    cases hv : valAt k l a with
    | none => rw [hv] at h; cases h
    | some p =>
      obtain ⟨n, c⟩ := p
      have hc := valAt_le' hv
      rw [hv] at h
      simp only at h
      cases hm : byteAt l c 45 with
      | false =>
        rw [hm] at h
        simp only [Bool.false_eq_true, if_false] at h
        have hcb := stepAt_le h hc.2
        have hsc : Same contB l l' c c := by
          rcases Nat.lt_or_ge c b with hlt | hge
          · exact .inr (hu c hlt)
          · obtain rfl : c = b := by omega
            exact hs
        rw [valAt_loc hv (hu.mono (by omega)) hsc.word]
        simp only
        rw [hsc.noByte (.inl rfl) hm]
        exact stepAt_loc h hu hs
      | true =>
        rw [hm] at h
        simp only [if_true] at h
        cases hv2 : valAt k l (c + 1) with
        | none => rw [hv2] at h; cases h
        | some q =>
          obtain ⟨m, e⟩ := q
          have he := valAt_le' hv2
          rw [hv2] at h
          simp only at h
          have heb := stepAt_le h he.2
          have hse : Same contB l l' e e := by
            rcases Nat.lt_or_ge e b with hlt | hge
            · exact .inr (hu e hlt)
            · obtain rfl : e = b := by omega
              exact hs
          rw [valAt_loc hv (hu.mono (by omega)) (.inr (hu c (by omega)))]
          simp only
          rw [hu.byte (show c < b by omega), hm, if_pos rfl, valAt_loc hv2 (hu.mono (by omega)) hse.word]
          exact stepAt_loc h hu hs

/-- Where an item is wrong, and no letter stands there: what was read ahead of it. -/
theorem itemAt_bad {k : Kind} {l : Bytes} {a b : Nat} (h : itemAt k l a = .bad b) (ha : a ≤ l.length) (hl : ∀ c, l[b]? = some c → letterB c = false) :
    a ≤ b ∧ b ≤ l.length ∧ ∀ l', Upto l l' b →
      ((l'[b]? = none ∨ l'[b]? = l[b]?) → itemAt k l' a = .bad b) ∧ (l'[b]? = some 49 → l'[b + 1]? = none → ∃ x, itemAt k l' a = .ok x (b + 1)) := by
  have one : ∀ l' : Bytes, l'[b]? = some 49 → l'[b + 1]? = none → numAt l' b = some (1, b + 1) := by
    intro l' h1 h2
    have : span digitB 2 (l'.drop b) = 1 := by
      refine (span_iff ..).2 ⟨fun i hi => ?_, by omega, .inr (by rw [h2]; simp)⟩
      obtain rfl : i = 0 := by omega
      exact ⟨49, h1, by decide⟩
    rw [numAt_mk this (by omega), drop_at _ _ _ h1]
    rfl
  have oneV : ∀ l' : Bytes, l'[b]? = some 49 → l'[b + 1]? = none → valAt k l' b = some (1, b + 1) := by
    intro l' h1 h2
    rw [valAt_digits (by rw [h1]; intro c hc; injection hc with hc; subst hc; decide), one l' h1 h2]
  have stop : ∀ l' : Bytes, l'[b + 1]? = none → ∀ x, stepAt l' x (b + 1) = .ok x (b + 1) := by
    intro l' h2 x
    simp [stepAt, byteAt, h2]
  have stepBad : ∀ (x : Item) (c : Nat), stepAt l x c = .bad b → c ≤ l.length → b = c + 1 ∧ b ≤ l.length ∧ ∀ l', Upto l l' b →
      ((l'[b]? = none ∨ l'[b]? = l[b]?) → stepAt l' x c = .bad b) ∧ (l'[b]? = some 49 → l'[b + 1]? = none → ∃ y, stepAt l' x c = .ok y (b + 1)) := by
    intro x c hx hcl
    unfold stepAt at hx
    cases hb : byteAt l c 47 with
    | false => rw [hb] at hx; simp only [Bool.false_eq_true, if_false] at hx; cases hx
    | true =>
      rw [hb] at hx
      simp only [if_true] at hx
      cases hn : numAt l (c + 1) with
      | some p => rw [hn] at hx; cases hx
      | none =>
        rw [hn] at hx
        injection hx with hx
        subst hx
        refine ⟨rfl, byte_lt hb, fun l' hu => ⟨fun hs => ?_, fun h1 h2 => ?_⟩⟩
        · unfold stepAt
          rw [hu.byte (by omega), hb, if_pos rfl, numAt_none.2]
          intro q hq
          rcases hs with hs | hs
          · rw [hs] at hq; cases hq
          · rw [hs] at hq; exact numAt_none.1 hn q hq
        · unfold stepAt
          rw [hu.byte (by omega), hb, if_pos rfl, one l' h1 h2]
          exact ⟨_, rfl⟩
  have valNone : ∀ l' : Bytes, valAt k l b = none → (l'[b]? = none ∨ l'[b]? = l[b]?) → valAt k l' b = none := by
    intro l' hv hs
    refine valAt_nil fun q hq => ?_
    rcases hs with hs | hs
    · rw [hs] at hq; cases hq
    · rw [hs] at hq; exact valAt_none_word hv hl q hq
  unfold itemAt at h
  cases hst : byteAt l a 42 with
  | true =>
    rw [hst] at h
    simp only [if_true] at h
    obtain ⟨h1, h2, h3⟩ := stepBad _ _ h (byte_lt hst)
    refine ⟨by omega, h2, fun l' hu => ?_⟩
    unfold itemAt
    rw [hu.byte (by omega), hst, if_pos rfl]
    exact h3 l' hu
  | false =>
    rw [hst] at h
    simp only [Bool.false_eq_true, if_false] at h
    cases hv : valAt k l a with
    | none =>
      rw [hv] at h
      injection h with h
      subst h
      refine ⟨Nat.le_refl _, ha, fun l' hu => ⟨fun hs => ?_, fun h1 h2 => ?_⟩⟩
      · unfold itemAt
        have : byteAt l' a 42 = false := by
          rcases hs with hs | hs
          · simp [byteAt, hs]
          · rw [byteAt, hs]; exact hst
        rw [this, valNone l' hv hs]
        rfl
      · unfold itemAt
        have : byteAt l' a 42 = false := by simp [byteAt, h1]
        rw [this, oneV l' h1 h2]
        have e45 : byteAt l' (a + 1) 45 = false := by simp [byteAt, h2]
        simp only [Bool.false_eq_true, if_false, e45]
        exact ⟨_, stop l' h2 _⟩
    | some p =>
      obtain ⟨n, c⟩ := p
      have hc := valAt_le' hv
      rw [hv] at h
      simp only at h
      cases hm : byteAt l c 45 with
      | false =>
        rw [hm] at h
        simp only [Bool.false_eq_true, if_false] at h
        obtain ⟨h1, h2, h3⟩ := stepBad _ _ h hc.2
        refine ⟨by omega, h2, fun l' hu => ?_⟩
        unfold itemAt
        rw [hu.byte (by omega), hst, valAt_loc hv (hu.mono (by omega)) (.inr (hu c (by omega)))]
        simp only [Bool.false_eq_true, if_false]
        rw [hu.byte (show c < b by omega), hm]
        simp only [Bool.false_eq_true, if_false]
        exact h3 l' hu
      | true =>
        rw [hm] at h
        simp only [if_true] at h
        cases hv2 : valAt k l (c + 1) with
        | none =>
          rw [hv2] at h
          injection h with h
          subst h
          have hcl := byte_lt hm
          refine ⟨by omega, hcl, fun l' hu => ?_⟩
          unfold itemAt
          rw [hu.byte (show a < c + 1 by omega), hst, valAt_loc hv (hu.mono (by omega)) (.inr (hu c (by omega)))]
          simp only [Bool.false_eq_true, if_false]
          rw [hu.byte (show c < c + 1 by omega), hm]
          simp only [if_true]
          refine ⟨fun hs => by rw [valNone l' hv2 hs], fun h1 h2 => ?_⟩
          rw [oneV l' h1 h2]
          exact ⟨_, stop l' h2 _⟩
        | some q =>
          obtain ⟨m, e⟩ := q
          have he := valAt_le' hv2
          rw [hv2] at h
          simp only at h
          obtain ⟨h1, h2, h3⟩ := stepBad _ _ h he.2
          refine ⟨by omega, h2, fun l' hu => ?_⟩
          unfold itemAt
          rw [hu.byte (by omega), hst, valAt_loc hv (hu.mono (by omega)) (.inr (hu c (by omega)))]
          simp only [Bool.false_eq_true, if_false]
          rw [hu.byte (show c < b by omega), hm]
          simp only [if_true]
          rw [valAt_loc hv2 (hu.mono (by omega)) (.inr (hu e (by omega)))]
          exact h3 l' hu

/-- A field that is wrong: the items ahead of the wrong place, and the last item. -/
theorem reads_bad (k : Kind) (l : Bytes) : ∀ (n a b : Nat), a ≤ l.length → l.length ≤ n + a → reads k l a = .bad b →
    ∃ p, a ≤ p ∧ p ≤ l.length ∧ (itemAt k l p = .bad b ∨ ∃ x, itemAt k l p = .ok x b ∧ b < l.length ∧ byteAt l b 44 = false) ∧
      ∀ l', Upto l l' p → p ≤ l'.length → ∃ xs, reads k l' a = appR xs (reads k l' p) := by
  intro n
  induction n with
  | zero =>
    intro a b h1 h2 h
    refine ⟨a, Nat.le_refl _, h1, ?_, fun l' _ _ => ⟨[], by cases reads k l' a <;> simp [appR]⟩⟩
    rw [reads_one k l a h1] at h
    cases hi : itemAt k l a with
    | bad c => rw [hi] at h; injection h with h; subst h; exact .inl rfl
    | ok x c => have := itemAt_le hi; omega
  | succ n ih =>
    intro a b h1 h2 h
    rw [reads_one k l a h1] at h
    cases hi : itemAt k l a with
    | bad c =>
      rw [hi] at h
      injection h with h
      subst h
      exact ⟨a, Nat.le_refl _, h1, .inl hi, fun l' _ _ => ⟨[], by cases reads k l' a <;> simp [appR]⟩⟩
    | ok x c =>
      have hc := itemAt_le hi
      rw [hi] at h
      simp only at h
      by_cases hcl : c = l.length
      · rw [if_pos hcl] at h; cases h
      · rw [if_neg hcl] at h
        cases hb : byteAt l c 44 with
        | false =>
          rw [hb] at h
          simp only [Bool.false_eq_true, if_false] at h
          injection h with h
          subst h
          exact ⟨a, Nat.le_refl _, h1, .inr ⟨x, hi, by omega, hb⟩, fun l' _ _ => ⟨[], by cases reads k l' a <;> simp [appR]⟩⟩
        | true =>
          rw [hb] at h
          simp only [if_true] at h
          have hr : reads k l (c + 1) = .bad b := by
            cases hr : reads k l (c + 1) with
            | bad d => rw [hr] at h; injection h with h; subst h; rfl
            | ok ys d => rw [hr] at h; cases h
          obtain ⟨p, p1, p2, p3, p4⟩ := ih (c + 1) b (by omega) (by omega) hr
          refine ⟨p, by omega, p2, p3, fun l' hu hp => ?_⟩
          obtain ⟨ys, hys⟩ := p4 l' hu hp
          refine ⟨x :: ys, ?_⟩
          rw [reads_one k l' a (by omega), itemAt_loc hi (hu.mono (by omega)) (.inr (hu c (by omega)))]
          simp only
          rw [if_neg (by omega), hu.byte (show c < p by omega), hb, if_pos rfl, hys]
          exact appR_appR [x] ys _

/-- **If no letter stands at the place of an ErrForm, what stands behind it does not matter; ahead of it stands the beginning of a field.** -/
theorem places (k : Kind) (s : Bytes) (b : Nat) (hl : ∀ c, s[b]? = some c → letterB c = false) (h : reads k s 0 = .bad b) :
    b ≤ s.length ∧ (b < s.length → ∀ more, reads k (s.take (b + 1) ++ more) 0 = .bad b) ∧
      (∀ c, reads k (s.take b) 0 = .bad c → c = b) ∧ ((∃ xs, reads k (s.take b) 0 = .ok xs b) ∨ ∃ xs, reads k (s.take b ++ [49]) 0 = .ok xs (b + 1)) := by
  obtain ⟨p, _, p2, p3, p4⟩ := reads_bad k s s.length 0 b (by omega) (by omega) h
  have app_bad : ∀ (xs : List Item) (l' : Bytes), p ≤ l'.length → reads k l' 0 = appR xs (reads k l' p) → reads k l' p = .bad b → reads k l' 0 = .bad b := by
    intro xs l' _ h1 h2; rw [h1, h2]; rfl
  rcases p3 with p3 | ⟨x, p3, hlt, hcm⟩
  · obtain ⟨q1, q2, q3⟩ := itemAt_bad p3 p2 hl
    have hut : Upto s (s.take b) b := fun i hi => by rw [List.getElem?_take, if_pos hi]
    have hlt' : (s.take b).length = b := by simp; omega
    have hbt : reads k (s.take b) 0 = .bad b := by
      obtain ⟨xs, hx⟩ := p4 (s.take b) (hut.mono q1) (by omega)
      refine app_bad xs _ (by omega) hx ?_
      rw [reads_one _ _ _ (by omega), (q3 _ hut).1 (.inl (by rw [List.getElem?_eq_none]; omega))]
    refine ⟨q2, fun hb more => ?_, fun c hc => ?_, .inr ?_⟩
    · have hu : Upto s (s.take (b + 1) ++ more) (b + 1) := fun i hi => by
        rw [List.getElem?_append_left (by simp; omega), List.getElem?_take, if_pos hi]
      have hle : b + 1 ≤ (s.take (b + 1) ++ more).length := by simp; omega
      obtain ⟨xs, hx⟩ := p4 _ (hu.mono (show p ≤ b + 1 by omega)) (by omega)
      refine app_bad xs _ (by omega) hx ?_
      rw [reads_one _ _ _ (by omega), (q3 _ (hu.mono (by omega))).1 (.inr (hu b (by omega)))]
    · rw [hbt] at hc; injection hc with hc; exact hc.symm
    · have hu : Upto s (s.take b ++ [49]) b := fun i hi => by
        rw [List.getElem?_append_left (by omega), List.getElem?_take, if_pos hi]
      have e1 : (s.take b ++ [49])[b]? = some 49 := by
        rw [List.getElem?_append_right (by omega), hlt', Nat.sub_self]; rfl
      have hle : (s.take b ++ [49]).length = b + 1 := by rw [List.length_append, hlt']; rfl
      obtain ⟨xs, hx⟩ := p4 _ (hu.mono q1) (by omega)
      obtain ⟨y, hy⟩ := (q3 _ hu).2 e1 (by rw [List.getElem?_eq_none]; omega)
      refine ⟨xs ++ [y], ?_⟩
      rw [hx, reads_one _ _ _ (by omega), hy]
      simp only
      rw [if_pos hle.symm]
      rfl
  · have hpb := itemAt_le p3
    have hut : Upto s (s.take b) b := fun i hi => by rw [List.getElem?_take, if_pos hi]
    have hlt' : (s.take b).length = b := by simp; omega
    have hok : ∃ xs, reads k (s.take b) 0 = .ok xs b := by
      obtain ⟨xs, hx⟩ := p4 (s.take b) (hut.mono (by omega)) (by omega)
      refine ⟨xs ++ [x], ?_⟩
      rw [hx, reads_one _ _ _ (by omega), itemAt_loc p3 hut (.inl (by rw [List.getElem?_eq_none (by omega)]; simp))]
      simp only
      rw [if_pos hlt'.symm]
      rfl
    refine ⟨by omega, fun hb more => ?_, fun c hc => ?_, .inl hok⟩
    · have hu : Upto s (s.take (b + 1) ++ more) (b + 1) := fun i hi => by
        rw [List.getElem?_append_left (by simp; omega), List.getElem?_take, if_pos hi]
      have hle : b + 1 ≤ (s.take (b + 1) ++ more).length := by simp; omega
      obtain ⟨xs, hx⟩ := p4 _ (hu.mono (show p ≤ b + 1 by omega)) (by omega)
      refine app_bad xs _ (by omega) hx ?_
      rw [reads_one _ _ _ (by omega), itemAt_loc p3 (hu.mono (by omega)) (.inr (hu b (by omega)))]
      simp only
      rw [if_neg (by omega), hu.byte (by omega), hcm]
      rfl
    · obtain ⟨xs, hx⟩ := hok
      rw [hx] at hc; cases hc

end Fs
end Go.Proofs.YtjnlgaeedcklaaaGreatDoor

namespace Go.Proofs.YtjnlgaeedcklaaaGreatDoor
namespace Fs

/-- How many of the next numbers are each a step behind the one before. -/
def runLen (st : Nat) : Nat → List Nat → Nat
  | _, [] => 0
  | p, c :: r => if c = p + st then 1 + runLen st c r else 0

/-- The first range: how many numbers it takes, its first and last number, its step. -/
def oneRun : List Nat → Nat × Nat × Nat × Nat
  | [] => (0, 0, 0, 1)
  | [a] => (1, a, a, 1)
  | a :: b :: r => if runLen (b - a) b r = 0 ∧ 1 < b - a then (1, a, a, 1) else (2 + runLen (b - a) b r, a, b + runLen (b - a) b r * (b - a), b - a)

def runs : Nat → List Nat → List (Nat × Nat × Nat)
  | 0, _ => []
  | _ + 1, [] => []
  | f + 1, a :: l => (oneRun (a :: l)).2 :: runs f ((a :: l).drop (oneRun (a :: l)).1)

theorem runLen_le (st p : Nat) (l : List Nat) : runLen st p l ≤ l.length := by
  induction l generalizing p with
  | nil => simp [runLen]
  | cons c r ih =>
    simp only [runLen]
    split
    · have := ih c; simp only [List.length_cons]; omega
    · omega

/-- The elements of the run. -/
theorem runLen_get (st p : Nat) (l : List Nat) : ∀ i, i < runLen st p l → l[i]? = some (p + (i + 1) * st) := by
  induction l generalizing p with
  | nil => intro i hi; simp [runLen] at hi
  | cons c r ih =>
    intro i hi
    simp only [runLen] at hi
    split at hi
    · rename_i hc
      rcases i with _ | i
      · simp [hc]
      · rw [List.getElem?_cons_succ, ih c i (by omega), hc]
        congr 1
        rw [Nat.add_mul (i + 1) 1 st]
        omega
    · omega

/-- It ends where the next number is not a step away, or there is none. -/
theorem runLen_end (st p : Nat) (l : List Nat) : l[runLen st p l]? ≠ some (p + (runLen st p l + 1) * st) := by
  induction l generalizing p with
  | nil => simp [runLen]
  | cons c r ih =>
    simp only [runLen]
    split
    · rename_i hc
      have := ih c
      rw [show 1 + runLen st c r = runLen st c r + 1 from by omega, List.getElem?_cons_succ]
      intro h
      apply this
      rw [h, hc]
      congr 1
      rw [Nat.add_mul (runLen st (p + st) r + 1) 1 st]
      omega
    · rename_i hc
      simpa using hc

/-- n numbers go on, and the next one does not: this is the length. -/
theorem runLen_eq (st p n : Nat) (l : List Nat) (h : ∀ i, i < n → l[i]? = some (p + (i + 1) * st)) (he : l[n]? ≠ some (p + (n + 1) * st)) : runLen st p l = n := by
  rcases Nat.lt_trichotomy (runLen st p l) n with hlt | heq | hgt
  · exact absurd (h _ hlt) (runLen_end st p l)
  · exact heq
  · exact absurd (runLen_get st p l n hgt) he

theorem oneRun_pos (a : Nat) (l : List Nat) : 1 ≤ (oneRun (a :: l)).1 := by
  rcases l with _ | ⟨b, r⟩
  · simp [oneRun]
  · simp only [oneRun]
    split <;> simp <;> omega

theorem oneRun_le (a : Nat) (l : List Nat) : (oneRun (a :: l)).1 ≤ l.length + 1 := by
  rcases l with _ | ⟨b, r⟩
  · simp [oneRun]
  · simp only [oneRun]
    have := runLen_le (b - a) b r
    split <;> simp <;> omega

/-- What is read so far and what is still to come. -/
def RunRel (L : List Nat) (done : List (Nat × Nat × Nat)) (rest : List Nat) : Prop :=
  ∃ f, rest.length ≤ f ∧ done ++ runs f rest = runs L.length L

theorem RunRel.start (L : List Nat) : RunRel L [] L := ⟨L.length, Nat.le_refl _, rfl⟩
theorem RunRel.last {L : List Nat} {done : List (Nat × Nat × Nat)} (h : RunRel L done []) : done = runs L.length L := by
  obtain ⟨f, _, h⟩ := h
  rw [← h]
  cases f <;> simp [runs]
theorem RunRel.next {L : List Nat} {done : List (Nat × Nat × Nat)} {a : Nat} {l : List Nat} (h : RunRel L done (a :: l)) : RunRel L (done ++ [(oneRun (a :: l)).2]) ((a :: l).drop (oneRun (a :: l)).1) := by
  obtain ⟨f, hf, h⟩ := h
  rcases f with _ | f
  · simp at hf
  · refine ⟨f, ?_, ?_⟩
    · have := oneRun_pos a l
      simp only [List.length_drop, List.length_cons] at hf ⊢
      omega
    · rw [← h]; simp [runs]

end Fs
end Go.Proofs.YtjnlgaeedcklaaaGreatDoor

namespace Go.Proofs.YtjnlgaeedcklaaaGreatDoor
namespace Fs

/-- A number from 0 to 99 in digits. -/
def dig (n : Nat) : Bytes := if n < 10 then [UInt8.ofNat (48 + n)] else [UInt8.ofNat (48 + n / 10), UInt8.ofNat (48 + n % 10)]

/-- The numbers of a set from 0 on, up to a bound. -/
def elsOf (s k : Nat) : List Nat := (List.range k).filter (s.testBit ·)
def runsOf (s : Nat) : List (Nat × Nat × Nat) := runs (elsOf s 64).length (elsOf s 64)

def runText (r : Nat × Nat × Nat) : Bytes := dig r.1 ++ (if r.1 = r.2.1 then [] else 45 :: dig r.2.1) ++ (if r.2.2 = 1 then [] else 47 :: dig r.2.2)

/-- The texts behind each other, a comma between two. -/
def joinB : List Bytes → Bytes
  | [] => []
  | [a] => a
  | a :: b :: l => a ++ 44 :: joinB (b :: l)

def printB (k : Kind) (s : Nat) (star : Bool) : Bytes × Int :=
  if checkB k = false ∨ s = 0 ∨ s &&& full k ≠ s ∨ (star = true ∧ s ≠ full k) then ([], 2)
  else if star then ([42], 0)
  else (joinB ((runsOf s).map runText), 0)

def normalB (k : Kind) (l : Bytes) : Bytes × Nat × Int :=
  if (parse k l).2.2.2 = 0 then ((printB k (parse k l).1 (parse k l).2.1).1, 0, (printB k (parse k l).1 (parse k l).2.1).2)
  else ([], (parse k l).2.2.1, (parse k l).2.2.2)

def fullB (k : Kind) : Nat × Int := if checkB k then (full k, 0) else (0, 2)

def nameB (k : Kind) (v : Int) : Bytes × Int :=
  if checkB k then
    if v < k.lo ∨ k.hi < v then ([], 3)
    else if k.names = [] then ([], 5)
    else (k.names.getD (v - k.lo).toNat [], 0)
  else ([], 2)

/-! ### Numbers in digits are read -/
theorem dig_len (n : Nat) (h : n < 100) : (dig n).length = 1 ∨ (dig n).length = 2 := by
  unfold dig; split <;> simp
theorem dig_digit : ∀ n : Nat, n < 100 → (dig n).all digitB = true := by decide +kernel
theorem dig_num : ∀ n : Nat, n < 100 → numOf (dig n) = n := by decide +kernel

/-- The text r follows the byte place a of l. -/
theorem numAt_dig {l : Bytes} {a n : Nat} (hn : n < 100) (t : Bytes) (h : l.drop a = dig n ++ t) (ht : ∀ c, t[0]? = some c → digitB c = false) : numAt l a = some (n, a + (dig n).length) := by
  have hl := dig_len n hn
  have hsp : span digitB 2 (l.drop a) = (dig n).length := by
    rw [h]
    refine (span_iff0 ..).2 ⟨fun i hi => ?_, by omega, .inr fun c hc => ?_⟩
    · rw [List.getElem?_append_left hi]
      refine ⟨(dig n)[i], List.getElem?_eq_getElem hi, ?_⟩
      exact List.all_eq_true.1 (dig_digit n hn) _ (List.getElem_mem hi)
    · rw [List.getElem?_append_right (by omega), Nat.sub_self] at hc
      exact ht c hc
  rw [numAt_mk hsp (by omega), h, List.take_left' rfl, dig_num n hn]

theorem digits_val {k : Kind} {l : Bytes} {a : Nat} {c : UInt8} (h : l[a]? = some c) (hc : digitB c = true) : valAt k l a = numAt l a :=
  valAt_digits (by rw [h]; intro d hd; injection hd with hd; subst hd; exact digit_letter hc)

theorem dig_head (n : Nat) (hn : n < 100) : ∃ c, (dig n)[0]? = some c ∧ digitB c = true := by
  have h1 : 0 < (dig n).length := by have := dig_len n hn; omega
  exact ⟨(dig n)[0], List.getElem?_eq_getElem h1, List.all_eq_true.1 (dig_digit n hn) _ (List.getElem_mem h1)⟩

theorem valAt_dig {k : Kind} {l : Bytes} {a n : Nat} (hn : n < 100) (t : Bytes) (h : l.drop a = dig n ++ t) (ht : ∀ c, t[0]? = some c → digitB c = false) : valAt k l a = some (n, a + (dig n).length) := by
  obtain ⟨c, hc, hd⟩ := dig_head n hn
  have : l[a]? = some c := by
    have := congrArg (·[0]?) h
    simp only [List.getElem?_drop, Nat.add_zero] at this
    rw [this, List.getElem?_append_left (by have := dig_len n hn; omega)]; exact hc
  rw [digits_val this hd, numAt_dig hn t h ht]

theorem byteAt_drop {l t : Bytes} {a : Nat} (h : l.drop a = t) (q : UInt8) : byteAt l a q = (t[0]? == some q) := by
  rw [← h, List.getElem?_drop, Nat.add_zero]; rfl

/-- The text of an item: its numbers in digits. -/
def itemText (x : Nat) (hi st : Option Nat) : Bytes := dig x ++ (match hi with
  | none => []
  | some m => 45 :: dig m) ++ (match st with
  | none => []
  | some m => 47 :: dig m)
def stepText : Option Nat → Bytes
  | none => []
  | some m => 47 :: dig m

/-- A byte ahead of which an item may end. -/
def EndB (t : Bytes) : Prop := ∀ c, t[0]? = some c → contB c = false
theorem endB_nil : EndB [] := by intro c h; cases h
theorem endB_comma (t : Bytes) : EndB (44 :: t) := by intro c h; simp at h; subst h; rfl
theorem EndB.digit {t : Bytes} (h : EndB t) : ∀ c, t[0]? = some c → digitB c = false := fun c hc => (wordB_no (contB_no (h c hc)).1).1
theorem EndB.no {t : Bytes} (h : EndB t) {q : UInt8} (hq : q = 45 ∨ q = 47) : (t[0]? == some q) = false := by
  cases hc : t[0]? with
  | none => simp
  | some c =>
    have := contB_no (h c hc)
    rcases hq with rfl | rfl <;> simp [this]

theorem stepAt_text {l : Bytes} {a : Nat} (x : Item) (st : Option Nat) (hs : ∀ m, st = some m → m < 100) (t : Bytes) (h : l.drop a = stepText st ++ t) (ht : EndB t) (hx : x.step = none) :
    stepAt l x a = .ok { x with step := st.map fun m => (m, a + 1) } (a + (stepText st).length) := by
  unfold stepAt
  rw [byteAt_drop h]
  cases st with
  | none =>
    simp only [stepText, List.nil_append, ht.no (.inr rfl)]
    obtain ⟨x0, x1, x2, x3, x4⟩ := x
    simp only at hx
    subst hx
    rfl
  | some m =>
    have hm := hs m rfl
    have e : ((stepText (some m) ++ t)[0]? == some 47) = true := rfl
    rw [e]
    simp only [if_true]
    have h2 : l.drop (a + 1) = dig m ++ t := by
      rw [← List.drop_drop, h]; rfl
    rw [numAt_dig hm t h2 ht.digit]
    simp only [stepText, List.length_cons, Option.map_some]
    congr 1
    omega

theorem slash_end (st : Option Nat) (t : Bytes) (ht : EndB t) : (∀ c, (stepText st ++ t)[0]? = some c → digitB c = false) ∧ ((stepText st ++ t)[0]? == some 45) = false := by
  cases st with
  | none => exact ⟨ht.digit, ht.no (.inl rfl)⟩
  | some m => exact ⟨by intro c hc; simp [stepText] at hc; subst hc; rfl, rfl⟩

theorem dig_noStar {n : Nat} (hn : n < 100) (t : Bytes) : ((dig n ++ t)[0]? == some 42) = false := by
  obtain ⟨c, hc, hd⟩ := dig_head n hn
  rw [List.getElem?_append_left (by have := dig_len n hn; omega), hc]
  cases hq : (some c == some (42 : UInt8)) with
  | false => rfl
  | true => simp only [beq_iff_eq, Option.some.injEq] at hq; subst hq; cases hd

/-- **An item of one number, or of a range, with or without a step, is read.** -/
theorem itemAt_one {k : Kind} {l : Bytes} {a n : Nat} (st : Option Nat) (hn : n < 100) (hs : ∀ m, st = some m → m < 100) (t : Bytes) (h : l.drop a = dig n ++ (stepText st ++ t)) (ht : EndB t) :
    itemAt k l a = .ok ⟨false, a, some (n, a), none, st.map fun m => (m, a + (dig n).length + 1)⟩ (a + (dig n).length + (stepText st).length) := by
  obtain ⟨e1, e2⟩ := slash_end st t ht
  unfold itemAt
  rw [byteAt_drop h, dig_noStar hn, valAt_dig hn _ h e1]
  simp only [Bool.false_eq_true, if_false]
  have h2 : l.drop (a + (dig n).length) = stepText st ++ t := by
    rw [← List.drop_drop, h, List.drop_left]
  rw [byteAt_drop h2, e2]
  simp only [Bool.false_eq_true, if_false]
  rw [stepAt_text _ st hs t h2 ht rfl]
  rfl

theorem itemAt_two {k : Kind} {l : Bytes} {a n m : Nat} (st : Option Nat) (hn : n < 100) (hm : m < 100) (hs : ∀ m, st = some m → m < 100) (t : Bytes) (h : l.drop a = dig n ++ (45 :: (dig m ++ (stepText st ++ t)))) (ht : EndB t) :
    itemAt k l a = .ok ⟨false, a, some (n, a), some (m, a + (dig n).length + 1), st.map fun q => (q, a + (dig n).length + 1 + (dig m).length + 1)⟩ (a + (dig n).length + 1 + (dig m).length + (stepText st).length) := by
  obtain ⟨e1, e2⟩ := slash_end st t ht
  unfold itemAt
  rw [byteAt_drop h, dig_noStar hn, valAt_dig hn _ h (by intro c hc; simp at hc; subst hc; rfl)]
  simp only [Bool.false_eq_true, if_false]
  have h2 : l.drop (a + (dig n).length) = 45 :: (dig m ++ (stepText st ++ t)) := by
    rw [← List.drop_drop, h, List.drop_left]
  have h3 : l.drop (a + (dig n).length + 1) = dig m ++ (stepText st ++ t) := by
    rw [← List.drop_drop, h2]; rfl
  rw [byteAt_drop h2]
  have e : ((45 :: (dig m ++ (stepText st ++ t)))[0]? == some (45 : UInt8)) = true := rfl
  rw [e]
  simp only [if_true]
  rw [valAt_dig hm _ h3 e1]
  simp only
  have h4 : l.drop (a + (dig n).length + 1 + (dig m).length) = stepText st ++ t := by
    rw [← List.drop_drop, h3, List.drop_left]
  rw [stepAt_text _ st hs t h4 ht rfl]
  rfl

theorem itemAt_star {k : Kind} {l : Bytes} {a : Nat} (st : Option Nat) (hs : ∀ m, st = some m → m < 100) (t : Bytes) (h : l.drop a = 42 :: (stepText st ++ t)) (ht : EndB t) :
    itemAt k l a = .ok ⟨true, a, none, none, st.map fun m => (m, a + 1 + 1)⟩ (a + 1 + (stepText st).length) := by
  unfold itemAt
  rw [byteAt_drop h]
  have e : ((42 :: (stepText st ++ t))[0]? == some (42 : UInt8)) = true := rfl
  rw [e]
  simp only [if_true]
  have h2 : l.drop (a + 1) = stepText st ++ t := by
    rw [← List.drop_drop, h]; rfl
  rw [stepAt_text _ st hs t h2 ht rfl]
  rfl

end Fs
end Go.Proofs.YtjnlgaeedcklaaaGreatDoor

namespace Go.Proofs.YtjnlgaeedcklaaaGreatDoor
namespace Fs

def wk (week : Bool) (n : Nat) : Nat := if week then n % 7 else n

theorem setFrom_bit (week : Bool) (hi st : Nat) (hst : 0 < st) (i : Nat) : ∀ (f n s : Nat), hi + 1 ≤ f + n →
    ((setFrom week hi st f n s).testBit i = true ↔ (s.testBit i = true ∨ ∃ j, n + j * st ≤ hi ∧ i = wk week (n + j * st))) := by
  intro f
  induction f with
  | zero =>
    intro n s h
    simp only [setFrom]
    constructor
    · exact .inl
    · rintro (h1 | ⟨j, h1, _⟩)
      · exact h1
      · omega
  | succ f ih =>
    intro n s h
    simp only [setFrom]
    split
    · rename_i hn
      rw [ih (n + st) _ (by omega), Nat.testBit_or, Bool.or_eq_true]
      constructor
      · rintro ((h1 | h1) | ⟨j, h1, h2⟩)
        · exact .inl h1
        · refine .inr ⟨0, by omega, ?_⟩
          rw [Nat.testBit_two_pow] at h1
          have := of_decide_eq_true h1
          rw [Nat.zero_mul, Nat.add_zero, ← this]; rfl
        · exact .inr ⟨j + 1, by rw [Nat.succ_mul]; omega, by rw [h2, Nat.succ_mul, Nat.add_comm (j * st) st, Nat.add_assoc]⟩
      · rintro (h1 | ⟨j, h1, h2⟩)
        · exact .inl (.inl h1)
        · rcases j with _ | j
          · refine .inl (.inr ?_)
            rw [Nat.zero_mul, Nat.add_zero] at h2
            rw [h2, Nat.testBit_two_pow]
            exact decide_eq_true rfl
          · refine .inr ⟨j, ?_, ?_⟩
            · rw [Nat.succ_mul] at h1; omega
            · rw [h2, Nat.succ_mul, Nat.add_comm (j * st) st, Nat.add_assoc]
    · rename_i hn
      constructor
      · exact .inl
      · rintro (h1 | ⟨j, h1, _⟩)
        · exact h1
        · omega

theorem fill_bit (lo : Nat) (i : Nat) : ∀ n, (fill lo n).testBit i = true ↔ lo ≤ i ∧ i < lo + n := by
  intro n
  induction n with
  | zero => simp only [fill, Nat.zero_testBit, Bool.false_eq_true, false_iff]; omega
  | succ n ih =>
    rw [fill, Nat.testBit_or, Bool.or_eq_true, ih, Nat.testBit_two_pow, decide_eq_true_eq]
    omega

theorem bits_ext {a b : Nat} (h : ∀ i, a.testBit i = true ↔ b.testBit i = true) : a = b :=
  Nat.eq_of_testBit_eq fun i => by
    have := h i
    cases ha : a.testBit i <;> cases hb : b.testBit i <;> simp_all

/-- A kind that is allowed, with bounds that are natural numbers. -/
theorem check_nat {k : Kind} (h : checkB k = true) : ∃ lo hi : Nat, k.lo = lo ∧ k.hi = hi ∧ lo ≤ hi ∧ hi ≤ 62 ∧ (k.week = true → lo = 0 ∧ hi = 6) := by
  simp only [checkB, rangeOk, boundsOk, Bool.and_eq_true, decide_eq_true_eq, Bool.or_eq_true, Bool.not_eq_true'] at h
  obtain ⟨⟨⟨⟨⟨h1, h2⟩, h3⟩, h4⟩, h5⟩, _⟩ := h
  obtain ⟨lo, hlo⟩ := Int.eq_ofNat_of_zero_le h1
  obtain ⟨hi, hhi⟩ := Int.eq_ofNat_of_zero_le (show 0 ≤ k.hi by omega)
  refine ⟨lo, hi, hlo, hhi, by omega, by omega, fun hw => ?_⟩
  rcases h4 with h4 | h4
  · rw [hw] at h4; cases h4
  · omega

theorem full_bit {k : Kind} {lo hi : Nat} (hlo : k.lo = lo) (hhi : k.hi = hi) (h : lo ≤ hi) (i : Nat) : (full k).testBit i = true ↔ lo ≤ i ∧ i ≤ hi := by
  unfold full
  rw [hlo, hhi, fill_bit]
  have : ((hi : Int) - (lo : Int) + 1).toNat = hi - lo + 1 := by omega
  rw [this]
  simp only [Int.toNat_natCast]
  omega

theorem inB_nat {k : Kind} {lo hi : Nat} (hlo : k.lo = lo) (hhi : k.hi = hi) (n : Nat) : inB k n = true ↔ (lo ≤ n ∧ n ≤ hi) ∨ (k.week = true ∧ n = 7) := by
  unfold inB
  rw [hlo, hhi]
  simp only [Bool.or_eq_true, Bool.and_eq_true, decide_eq_true_eq]
  constructor
  · rintro (⟨h1, h2⟩ | h)
    · exact .inl ⟨by omega, by omega⟩
    · exact .inr h
  · rintro (⟨h1, h2⟩ | h)
    · exact .inl ⟨by omega, by omega⟩
    · exact .inr h

/-! ### Ranges with steps of a list of numbers -/
theorem elsOf_mem {s k i : Nat} : i ∈ elsOf s k ↔ i < k ∧ s.testBit i = true := by
  simp [elsOf]
theorem elsOf_sorted (s k : Nat) : (elsOf s k).Pairwise (· < ·) := List.Pairwise.filter _ List.pairwise_lt_range

/-- A number belongs to a range with a step. -/
def InRun (r : Nat × Nat × Nat) (i : Nat) : Prop := ∃ j, r.1 + j * r.2.2 ≤ r.2.1 ∧ i = r.1 + j * r.2.2

/-- What is known of a range of a list. -/
def RunOk (L : List Nat) (r : Nat × Nat × Nat) : Prop := r.1 ∈ L ∧ r.2.1 ∈ L ∧ 0 < r.2.2 ∧ ((r.1 = r.2.1 ∧ r.2.2 = 1) ∨ r.1 < r.2.1) ∧ r.2.2 ≤ r.2.1 - r.1 + 1

theorem oneRun_ok (a : Nat) (l : List Nat) (hs : (a :: l).Pairwise (· < ·)) : RunOk (a :: l) (oneRun (a :: l)).2 ∧ ∀ i, InRun (oneRun (a :: l)).2 i ↔ i ∈ (a :: l).take (oneRun (a :: l)).1 := by
  have single : InRun (a, a, 1) = fun i => i = a := by
    funext i
    apply propext
    constructor
    · rintro ⟨j, h1, h2⟩
      simp only at h1 h2
      omega
    · rintro rfl; exact ⟨0, by simp, by simp⟩
  rcases l with _ | ⟨b, r⟩
  · simp only [oneRun, single, List.take_succ_cons, List.take_zero, List.mem_singleton, implies_true, and_true]
    exact ⟨by simp, by simp, by simp, .inl ⟨rfl, rfl⟩, by simp⟩
  · have hab : a < b := by
      have := List.pairwise_cons.1 hs
      exact this.1 b (by simp)
    simp only [oneRun]
    split
    · simp only [single, List.take_succ_cons, List.take_zero, List.mem_singleton, implies_true, and_true]
      exact ⟨by simp, by simp, by simp, .inl ⟨rfl, rfl⟩, by simp⟩
    · rename_i hcond
      generalize hk : runLen (b - a) b r = k
      have hget : ∀ i, i < k → r[i]? = some (b + (i + 1) * (b - a)) := by rw [← hk]; exact runLen_get (b - a) b r
      have hkl : k ≤ r.length := by rw [← hk]; exact runLen_le _ _ _
      have hall : ∀ j, j < 2 + k → (a :: b :: r)[j]? = some (a + j * (b - a)) := by
        intro j hj
        rcases j with _ | _ | j
        · simp
        · simp; omega
        · rw [List.getElem?_cons_succ, List.getElem?_cons_succ, hget j (by omega)]
          congr 1
          rw [Nat.add_mul (j + 1) 1, Nat.one_mul]
          omega
      have hlast : b + k * (b - a) = a + (k + 1) * (b - a) := by rw [Nat.add_mul k 1, Nat.one_mul]; omega
      refine ⟨⟨by simp, ?_, by simp only; omega, .inr (by simp only; omega), by simp only; rw [hlast, Nat.add_mul k 1, Nat.one_mul]; omega⟩, fun i => ?_⟩
      · simp only
        rw [hlast]
        exact List.mem_of_getElem? (hall (k + 1) (by omega))
      · constructor
        · rintro ⟨j, h1, h2⟩
          simp only at h1 h2
          rw [hlast] at h1
          have hj : j < 2 + k := by
            rcases Nat.lt_or_ge j (2 + k) with h | h
            · exact h
            · have := Nat.mul_le_mul_right (b - a) (show k + 2 ≤ j by omega)
              rw [Nat.succ_mul (k + 1)] at this
              omega
          have := hall j hj
          rw [h2]
          refine List.mem_of_getElem? (i := j) ?_
          rw [List.getElem?_take, if_pos hj]; exact this
        · intro h
          obtain ⟨j, hj, he⟩ := List.mem_iff_getElem.1 h
          rw [List.length_take] at hj
          have hj2 : j < 2 + k := by omega
          refine ⟨j, ?_, ?_⟩
          · simp only
            rw [hlast]
            have := Nat.mul_le_mul_right (b - a) (show j ≤ k + 1 by omega)
            omega
          · have h1 := hall j hj2
            have h2 : ((a :: b :: r).take (2 + k))[j]? = some i := by rw [List.getElem?_eq_getElem (by rw [List.length_take]; exact hj), he]
            rw [List.getElem?_take, if_pos hj2, h1] at h2
            injection h2 with h2
            exact h2.symm

theorem RunOk.mono {L M : List Nat} {r : Nat × Nat × Nat} (h : RunOk L r) (hs : ∀ x ∈ L, x ∈ M) : RunOk M r := ⟨hs _ h.1, hs _ h.2.1, h.2.2⟩

/-- The ranges have just the numbers of the list. -/
theorem runs_ok : ∀ (f : Nat) (L : List Nat), L.length ≤ f → L.Pairwise (· < ·) → (∀ r ∈ runs f L, RunOk L r) ∧ ∀ i, (∃ r ∈ runs f L, InRun r i) ↔ i ∈ L := by
  intro f
  induction f with
  | zero =>
    intro L hl _
    obtain rfl := List.eq_nil_of_length_eq_zero (Nat.le_zero.1 hl)
    simp [runs]
  | succ f ih =>
    intro L hl hs
    rcases L with _ | ⟨a, l⟩
    · simp [runs]
    · have hp := oneRun_pos a l
      obtain ⟨h1, h2⟩ := oneRun_ok a l hs
      obtain ⟨h3, h4⟩ := ih ((a :: l).drop (oneRun (a :: l)).1) (by rw [List.length_drop]; omega) hs.drop
      simp only [runs]
      constructor
      · intro r hr
        rcases List.mem_cons.1 hr with rfl | hr
        · exact h1
        · exact (h3 r hr).mono fun x hx => List.mem_of_mem_drop hx
      · intro i
        have hm : i ∈ a :: l ↔ i ∈ (a :: l).take (oneRun (a :: l)).1 ∨ i ∈ (a :: l).drop (oneRun (a :: l)).1 := by
          rw [← List.mem_append, List.take_append_drop]
        rw [hm, ← h2, ← h4]
        constructor
        · rintro ⟨r, hr, hi⟩
          rcases List.mem_cons.1 hr with rfl | hr
          · exact .inl hi
          · exact .inr ⟨r, hr, hi⟩
        · rintro (hi | ⟨r, hr, hi⟩)
          · exact ⟨_, List.mem_cons_self, hi⟩
          · exact ⟨r, List.mem_cons_of_mem _ hr, hi⟩

theorem runs_ne (f : Nat) (L : List Nat) (h : L.length ≤ f) (hne : L ≠ []) : runs f L ≠ [] := by
  rcases f with _ | f
  · exact absurd (List.eq_nil_of_length_eq_zero (Nat.le_zero.1 h)) hne
  · rcases L with _ | ⟨a, l⟩
    · exact absurd rfl hne
    · simp [runs]

/-! ### The text of one range is read -/
theorem reads_single {k : Kind} {t : Bytes} {x : Item} (h : itemAt k t 0 = .ok x t.length) : reads k t 0 = .ok [x] t.length := by
  rw [reads_one k t 0 (by omega), h]
  simp

theorem runText_eq (a b st : Nat) : runText (a, b, st) = dig a ++ ((if a = b then [] else 45 :: dig b) ++ stepText (if st = 1 then none else some st)) := by
  unfold runText
  simp only [List.append_assoc]
  congr 2
  split <;> rfl

theorem runText_ne (r : Nat × Nat × Nat) (h : r.1 < 100) : (runText r == [42]) = false := by
  obtain ⟨a, b, st⟩ := r
  rw [runText_eq, beq_eq_false_iff_ne]
  intro he
  have := dig_noStar h ((if a = b then [] else 45 :: dig b) ++ stepText (if st = 1 then none else some st))
  simp only at this
  rw [he] at this
  simp at this

theorem parse_run {k : Kind} (hk : checkB k = true) {lo hi : Nat} (hlo : k.lo = lo) (hhi : k.hi = hi) (h62 : hi ≤ 62) (hw : k.week = true → lo = 0 ∧ hi = 6) (a b st : Nat) (ha : lo ≤ a ∧ a ≤ hi) (hb : lo ≤ b ∧ b ≤ hi) (hst : 0 < st) (hst2 : st < 100) (hab : (a = b ∧ st = 1) ∨ a < b) :
    ∃ S, parse k (runText (a, b, st)) = (S, false, 0, 0) ∧ ∀ i, S.testBit i = true ↔ InRun (a, b, st) i := by
  have hna : inB k a = true := (inB_nat hlo hhi a).2 (.inl ha)
  have hnb : inB k b = true := (inB_nat hlo hhi b).2 (.inl hb)
  have hstar : (runText (a, b, st) == [42]) = false := runText_ne _ (by simp only; omega)
  have hs : ∀ m, (if st = 1 then none else some st) = some m → m < 100 := by
    intro m; split
    · intro h; cases h
    · intro h; injection h with h; omega
  have hstep : itemStep ⟨false, 0, some (a, 0), none, (if st = 1 then none else some st).map fun q => (q, 0)⟩ = st := by
    by_cases h1 : st = 1 <;> simp [itemStep, h1]
  have fin : ∀ (x : Item), itemAt k (runText (a, b, st)) 0 = .ok x (runText (a, b, st)).length → wrongAt k x = none → itemLo k x = a → itemHi k x = b → itemStep x = st →
      ∃ S, parse k (runText (a, b, st)) = (S, false, 0, 0) ∧ ∀ i, S.testBit i = true ↔ InRun (a, b, st) i := by
    intro x hx hwx h1 h2 h3
    refine ⟨itemSet k x 0, ?_, fun i => ?_⟩
    · rw [parse_reads k _ hk, reads_single hx]
      simp only [setOf, hwx, hstar]
    · unfold itemSet
      rw [h1, h2, h3, setFrom_bit _ _ _ hst _ _ _ _ (by omega)]
      simp only [Nat.zero_testBit, Bool.false_eq_true, false_or, InRun]
      constructor
      · rintro ⟨j, h4, h5⟩
        refine ⟨j, h4, ?_⟩
        rw [h5, wk]
        split
        · rename_i hwk
          have := hw hwk
          exact Nat.mod_eq_of_lt (by omega)
        · rfl
      · rintro ⟨j, h4, h5⟩
        refine ⟨j, h4, ?_⟩
        rw [h5, wk]
        split
        · rename_i hwk
          have := hw hwk
          exact (Nat.mod_eq_of_lt (by omega)).symm
        · rfl
  rw [runText_eq] at fin ⊢
  rcases hab with ⟨rfl, rfl⟩ | hlt
  · have e := itemAt_one (k := k) (l := dig a ++ ((if a = a then [] else 45 :: dig a) ++ stepText (if 1 = 1 then none else some 1))) (a := 0) (n := a) none (by omega) (by intro m h; cases h) [] (by simp [stepText]) endB_nil
    refine fin _ (e.trans (congrArg (Rd.ok _) ?_)) ?_ ?_ ?_ ?_
    · simp [stepText]
    · simp [wrongAt, hna]
    · simp [itemLo]
    · simp [itemHi, itemLo]
    · simp [itemStep]
  · have e := itemAt_two (k := k) (l := dig a ++ ((if a = b then [] else 45 :: dig b) ++ stepText (if st = 1 then none else some st))) (a := 0) (n := a) (m := b) (if st = 1 then none else some st) (by omega) (by omega) hs [] (by simp [if_neg (Nat.ne_of_lt hlt)]) endB_nil
    refine fin _ (e.trans (congrArg (Rd.ok _) ?_)) ?_ ?_ ?_ ?_
    · rw [if_neg (Nat.ne_of_lt hlt)]
      simp only [List.length_append, List.length_cons]
      omega
    · have hnlt : ¬ b < a := by omega
      have hst0 : ¬ st = 0 := by omega
      by_cases h1 : st = 1
      · simp [wrongAt, hna, hnb, h1, hnlt]
      · simp [wrongAt, hna, hnb, h1, hnlt, hst0]
    · simp [itemLo]
    · simp [itemHi]
    · by_cases h1 : st = 1 <;> simp [itemStep, h1]

theorem joinB_cons (t : Bytes) (l : List Bytes) (h : l ≠ []) : joinB (t :: l) = t ++ 44 :: joinB l := by
  rcases l with _ | ⟨a, l⟩
  · exact absurd rfl h
  · rfl

theorem parse_runs {k : Kind} (hk : checkB k = true) {lo hi : Nat} (hlo : k.lo = lo) (hhi : k.hi = hi) (h62 : hi ≤ 62) (hw : k.week = true → lo = 0 ∧ hi = 6) : ∀ (rs : List (Nat × Nat × Nat)), rs ≠ [] →
    (∀ r ∈ rs, (lo ≤ r.1 ∧ r.1 ≤ hi) ∧ (lo ≤ r.2.1 ∧ r.2.1 ≤ hi) ∧ 0 < r.2.2 ∧ r.2.2 < 100 ∧ ((r.1 = r.2.1 ∧ r.2.2 = 1) ∨ r.1 < r.2.1)) →
    ∃ S, parse k (joinB (rs.map runText)) = (S, false, 0, 0) ∧ ∀ i, S.testBit i = true ↔ ∃ r ∈ rs, InRun r i := by
  intro rs
  induction rs with
  | nil => intro h; exact absurd rfl h
  | cons r rs ih =>
    intro _ hr
    obtain ⟨a, b, st⟩ := r
    obtain ⟨h1, h2, h3, h4, h5⟩ := hr (a, b, st) List.mem_cons_self
    obtain ⟨S, hS, hSb⟩ := parse_run hk hlo hhi h62 hw a b st h1 h2 h3 h4 h5
    by_cases hrs : rs = []
    · subst hrs
      exact ⟨S, hS, fun i => by rw [hSb]; simp⟩
    · obtain ⟨T, hT, hTb⟩ := ih hrs fun r h => hr r (List.mem_cons_of_mem _ h)
      refine ⟨S ||| T, ?_, fun i => ?_⟩
      · rw [List.map_cons, joinB_cons _ _ (by simpa using hrs), parse_comma k _ _ hk S 0 T 0 false false 0 0 hS hT]
        simp
      · rw [Nat.testBit_or, Bool.or_eq_true, hSb, hTb]
        simp

theorem subset_bit {a b : Nat} (h : a &&& b = a) (i : Nat) (hi : a.testBit i = true) : b.testBit i = true := by
  rw [← h, Nat.testBit_and, Bool.and_eq_true] at hi
  exact hi.2
theorem subset_of {a b : Nat} (h : ∀ i, a.testBit i = true → b.testBit i = true) : a &&& b = a :=
  bits_ext fun i => by
    rw [Nat.testBit_and, Bool.and_eq_true]
    exact ⟨fun h => h.1, fun h1 => ⟨h1, h i h1⟩⟩

/-- **What is written for a set is read as this set.** -/
theorem print_parse {k : Kind} (hk : checkB k = true) (s : Nat) (hs : s ≠ 0) (hf : s &&& full k = s) : parse k (joinB ((runsOf s).map runText)) = (s, false, 0, 0) := by
  obtain ⟨lo, hi, hlo, hhi, hle, h62, hw⟩ := check_nat hk
  have hbit : ∀ i, s.testBit i = true → lo ≤ i ∧ i ≤ hi := fun i h => (full_bit hlo hhi hle i).1 (subset_bit hf i h)
  obtain ⟨h1, h2⟩ := runs_ok (elsOf s 64).length (elsOf s 64) (Nat.le_refl _) (elsOf_sorted s 64)
  have hmem : ∀ i, i ∈ elsOf s 64 ↔ s.testBit i = true := fun i => by
    rw [elsOf_mem]
    exact ⟨fun h => h.2, fun h => ⟨by have := hbit i h; omega, h⟩⟩
  have hne : elsOf s 64 ≠ [] := by
    intro he
    apply hs
    apply bits_ext
    intro i
    rw [← hmem, he]
    simp
  obtain ⟨S, hS, hSb⟩ := parse_runs hk hlo hhi h62 hw (runsOf s) (runs_ne _ _ (Nat.le_refl _) hne) (fun r hr => by
    obtain ⟨m1, m2, m3, m4, m5⟩ := h1 r hr
    have a1 := hbit _ ((hmem _).1 m1)
    have a2 := hbit _ ((hmem _).1 m2)
    exact ⟨a1, a2, m3, by omega, m4⟩)
  rw [hS]
  have : S = s := bits_ext fun i => by rw [hSb, ← hmem, ← h2]; rfl
  rw [this]

end Fs
end Go.Proofs.YtjnlgaeedcklaaaGreatDoor
