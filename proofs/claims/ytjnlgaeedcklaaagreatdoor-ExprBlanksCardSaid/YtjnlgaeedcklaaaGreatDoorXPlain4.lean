/-
  What Parse returns, as the laws ask: sets within the kind, places within the text. No program in sight.
  The plain laws of lists, places, ranges and steps, at a kind that is allowed. No program in sight.
  What expressions are, by their texts: words, sets, errors (layer 7). No program in sight.
  What is printed for an expression is read as this expression; what is read is valid. No program in sight.
  The words of a text, one by one; what is read is valid, and is read again from what is printed for it. No program in sight.
  Expressions: what is printed is read as the same; what is read is valid; where what is not read is wrong. No program in sight.
  Where two expressions match together. No program in sight.
  How many bits a number has: by halves, and by the library's sums of fields. No program in sight.
  Plain: the fields one after the other.
-/
import Derived.Test.YtjnlgaeedcklaaaGreatDoorFBack
import Derived.Lib.IndexAny
import Derived.Lib.SlTrimSet
set_option linter.unusedVariables false
set_option linter.unusedSimpArgs false
namespace Go.Proofs.YtjnlgaeedcklaaaGreatDoor
namespace Fs

/-- What a read item is: a star, or a number, or a range; its places lie within the text. -/
structure Shape (l : Bytes) (x : Item) : Prop where
  star : x.star = true → x.lo = none ∧ x.hi = none
  lo : x.star = false → ∃ p, x.lo = some p
  plo : ∀ p, x.lo = some p → p.2 < l.length
  phi : ∀ p, x.hi = some p → p.2 < l.length
  pst : ∀ p, x.step = some p → p.2 < l.length

theorem numAt_lt {l : Bytes} {a v b : Nat} (h : numAt l a = some (v, b)) : a < l.length := by have := numAt_le' h; omega
theorem valAt_lt {k : Kind} {l : Bytes} {a v b : Nat} (h : valAt k l a = some (v, b)) : a < l.length := by have := valAt_le' h; omega

theorem stepAt_shape {l : Bytes} {x y : Item} {a b : Nat} (h : stepAt l x a = .ok y b) (hx : x.step = none) : ∃ st, y = { x with step := st } ∧ ∀ p, st = some p → p.2 < l.length := by
  unfold stepAt at h
  split at h
  · split at h
    · rename_i n c hc
      injection h with h3 h4
      subst h3 h4
      exact ⟨_, rfl, fun p hp => by cases hp; exact numAt_lt hc⟩
    · cases h
  · injection h with h3 h4
    subst h3 h4
    exact ⟨none, by rw [← hx], fun p hp => by cases hp⟩

theorem itemAt_shape {k : Kind} {l : Bytes} {a b : Nat} {x : Item} (h : itemAt k l a = .ok x b) : Shape l x := by
  unfold itemAt at h
  split at h
  · obtain ⟨st, rfl, hs⟩ := stepAt_shape h rfl
    exact ⟨fun _ => ⟨rfl, rfl⟩, (by intro h; cases h), (by intro p h; cases h), (by intro p h; cases h), hs⟩
  · split at h
    · cases h
    · rename_i n b1 hv
      split at h
      · split at h
        · cases h
        · rename_i m c hv2
          obtain ⟨st, rfl, hs⟩ := stepAt_shape h rfl
          exact ⟨(by intro h; cases h), fun _ => ⟨_, rfl⟩, (by intro p h; cases h; exact valAt_lt hv), (by intro p h; cases h; exact valAt_lt hv2), hs⟩
      · obtain ⟨st, rfl, hs⟩ := stepAt_shape h rfl
        exact ⟨(by intro h; cases h), fun _ => ⟨_, rfl⟩, (by intro p h; cases h; exact valAt_lt hv), (by intro p h; cases h), hs⟩

theorem itemAt_bad_le {k : Kind} {l : Bytes} {a b : Nat} (h : itemAt k l a = .bad b) (ha : a ≤ l.length) : b ≤ l.length := by
  have st : ∀ (x : Item) (c : Nat), stepAt l x c = .bad b → b ≤ l.length := by
    intro x c h
    unfold stepAt at h
    split at h
    · rename_i hq
      have := byte_lt hq
      split at h
      · cases h
      · injection h with h; omega
    · cases h
  unfold itemAt at h
  split at h
  · exact st _ _ h
  · split at h
    · injection h with h; omega
    · rename_i n b1 hv
      have := valAt_le' hv
      split at h
      · rename_i hq
        have := byte_lt hq
        split at h
        · injection h with h; omega
        · exact st _ _ h
      · exact st _ _ h

theorem itemsAt_shape {k : Kind} {l : Bytes} : ∀ (f a : Nat) (xs : List Item) (b : Nat), itemsAt k l f a = .ok xs b → xs ≠ [] ∧ ∀ x ∈ xs, Shape l x := by
  intro f
  induction f with
  | zero => intro a xs b h; cases h
  | succ f ih =>
    intro a xs b h
    unfold itemsAt at h
    split at h
    · cases h
    · rename_i x b1 hx
      have sx := itemAt_shape hx
      split at h
      · injection h with h1 h2; subst h1
        exact ⟨by simp, fun y hy => by rw [List.mem_singleton.1 hy]; exact sx⟩
      · split at h
        · split at h
          · cases h
          · rename_i r c hr
            injection h with h1 h2; subst h1
            exact ⟨by simp, fun y hy => by
              rcases List.mem_cons.1 hy with rfl | hy
              · exact sx
              · exact (ih _ _ _ hr).2 y hy⟩
        · cases h
theorem itemsAt_bad_le {k : Kind} {l : Bytes} : ∀ (f a b : Nat), a ≤ l.length → itemsAt k l f a = .bad b → b ≤ l.length := by
  intro f
  induction f with
  | zero => intro a b ha h; injection h with h; omega
  | succ f ih =>
    intro a b ha h
    unfold itemsAt at h
    split at h
    · rename_i c hc
      injection h with h; subst h
      exact itemAt_bad_le hc ha
    · rename_i x b1 hx
      have := itemAt_le hx
      split at h
      · cases h
      · split at h
        · rename_i hq
          have := byte_lt hq
          split at h
          · rename_i c hc
            injection h with h; subst h
            exact ih _ _ (by omega) hc
          · cases h
        · injection h with h; omega

theorem wrongAt_lt {k : Kind} {l : Bytes} {x : Item} {a : Nat} (hx : Shape l x) (h : wrongAt k x = some a) : a < l.length := by
  have pick : ∀ (q : Part), (∀ p, q = some p → p.2 < l.length) → q.map (·.2) = some a → a < l.length := by
    intro q hq h
    obtain ⟨p, hp, rfl⟩ := Option.map_eq_some_iff.1 h
    exact hq p hp
  unfold wrongAt at h
  simp only at h
  split at h
  · exact pick _ hx.plo h
  · split at h
    · exact pick _ hx.phi h
    · split at h
      · exact pick _ hx.plo h
      · split at h
        · exact pick _ hx.pst h
        · cases h

/-- The numbers of an item that is not wrong. -/
theorem item_good {k : Kind} {lo hi : Nat} (hlo : k.lo = lo) (hhi : k.hi = hi) (hle : lo ≤ hi) (hw : k.week = true → lo = 0 ∧ hi = 6) {l : Bytes} {x : Item} (hx : Shape l x) (hn : wrongAt k x = none) :
    0 < itemStep x ∧ itemLo k x ≤ itemHi k x ∧ ∀ n, itemLo k x ≤ n → n ≤ itemHi k x → lo ≤ wk k.week n ∧ wk k.week n ≤ hi := by
  obtain ⟨s, a, plo, phi, pst⟩ := x
  have key : ∀ n, inB k n = true ↔ (lo ≤ n ∧ n ≤ hi) ∨ (k.week = true ∧ n = 7) := inB_nat hlo hhi
  have step : ∀ p, pst = some p → p.1 ≠ 0 := by
    rintro p rfl h0
    unfold wrongAt at hn
    simp only at hn
    split at hn
    · rename_i h; cases plo <;> simp at h hn
    · split at hn
      · rename_i h; cases phi <;> simp at h hn
      · split at hn
        · rename_i h; cases plo <;> simp at h hn
        · simp [h0] at hn
  have hst : 0 < itemStep ⟨s, a, plo, phi, pst⟩ := by
    unfold itemStep
    cases pst with
    | none => simp
    | some p => have := step p rfl; simp; omega
  have glo : ∀ p, plo = some p → inB k p.1 = true := by
    rintro p rfl
    cases h : inB k p.1 with
    | true => rfl
    | false => unfold wrongAt at hn; simp [h] at hn
  have ghi : ∀ p, phi = some p → inB k p.1 = true := by
    rintro p rfl
    cases h : inB k p.1 with
    | true => rfl
    | false =>
      unfold wrongAt at hn
      simp only at hn
      split at hn
      · rename_i h; cases plo <;> simp at h hn
      · simp [h] at hn
  have gle : ∀ p q, plo = some q → phi = some p → q.1 ≤ p.1 := by
    rintro p q rfl rfl
    have h1 := glo q rfl
    have h2 := ghi p rfl
    rcases Nat.lt_or_ge p.1 q.1 with h | h
    · unfold wrongAt at hn; simp [h1, h2, h] at hn
    · exact h
  have fin : ∀ n m, (inB k m = true ∨ m ≤ hi) → lo ≤ n → n ≤ m → lo ≤ wk k.week n ∧ wk k.week n ≤ hi := by
    intro n m hm h1 h2
    cases hwk : k.week with
    | false =>
      simp only [wk, Bool.false_eq_true, if_false]
      rcases hm with hm | hm
      · rcases (key m).1 hm with h | h
        · omega
        · rw [hwk] at h; cases h.1
      · omega
    | true =>
      obtain ⟨rfl, rfl⟩ := hw hwk
      simp only [wk, if_true]
      omega
  refine ⟨hst, ?_⟩
  cases s with
  | true =>
    have h1 : itemLo k ⟨true, a, plo, phi, pst⟩ = lo := by simp [itemLo, hlo]
    have h2 : itemHi k ⟨true, a, plo, phi, pst⟩ = hi := by simp [itemHi, hhi]
    rw [h1, h2]
    exact ⟨hle, fun n a b => fin n hi (.inr (Nat.le_refl _)) a b⟩
  | false =>
    obtain ⟨p, rfl⟩ := hx.lo rfl
    have h1 : itemLo k ⟨false, a, some p, phi, pst⟩ = p.1 := by simp [itemLo]
    have hp := glo p rfl
    have hpl : lo ≤ p.1 := by
      rcases (key _).1 hp with h | h
      · exact h.1
      · obtain ⟨rfl, rfl⟩ := hw h.1; omega
    rw [h1]
    cases phi with
    | some q =>
      have h2 : itemHi k ⟨false, a, some p, some q, pst⟩ = q.1 := by simp [itemHi]
      rw [h2]
      exact ⟨gle q p rfl rfl, fun n h3 h4 => fin n q.1 (.inl (ghi q rfl)) (by omega) h4⟩
    | none =>
      cases pst with
      | none =>
        have h2 : itemHi k ⟨false, a, some p, none, none⟩ = p.1 := by simp [itemHi, itemLo]
        rw [h2]
        exact ⟨Nat.le_refl _, fun n h3 h4 => fin n p.1 (.inl hp) (by omega) h4⟩
      | some q =>
        have h2 : itemHi k ⟨false, a, some p, none, some q⟩ = max p.1 hi := by simp [itemHi, itemLo, hhi]
        rw [h2]
        refine ⟨Nat.le_max_left _ _, fun n h3 h4 => ?_⟩
        rcases Nat.le_total p.1 hi with h | h
        · rw [Nat.max_eq_right h] at h4; exact fin n hi (.inr (Nat.le_refl _)) (by omega) h4
        · rw [Nat.max_eq_left h] at h4; exact fin n p.1 (.inl hp) (by omega) h4

theorem itemSet_good {k : Kind} {lo hi : Nat} (hlo : k.lo = lo) (hhi : k.hi = hi) (hle : lo ≤ hi) (hw : k.week = true → lo = 0 ∧ hi = 6) {l : Bytes} {x : Item} (hx : Shape l x) (hn : wrongAt k x = none) (s : Nat) (i : Nat) :
    ((itemSet k x s).testBit i = true → s.testBit i = true ∨ (lo ≤ i ∧ i ≤ hi)) ∧ itemSet k x s ≠ 0 := by
  obtain ⟨h1, h2, h3⟩ := item_good hlo hhi hle hw hx hn
  have key := fun i => setFrom_bit k.week (itemHi k x) (itemStep x) h1 i (itemHi k x + 1 - itemLo k x) (itemLo k x) s (by omega)
  constructor
  · intro h
    rcases (key i).1 h with h | ⟨j, hj, rfl⟩
    · exact .inl h
    · exact .inr (h3 _ (Nat.le_add_right _ _) hj)
  · intro h0
    have h4 := (key (wk k.week (itemLo k x))).2 (.inr ⟨0, by omega, by simp⟩)
    rw [show setFrom k.week (itemHi k x) (itemStep x) (itemHi k x + 1 - itemLo k x) (itemLo k x) s = itemSet k x s from rfl, h0] at h4
    simp at h4

theorem setOf_good {k : Kind} {lo hi : Nat} (hlo : k.lo = lo) (hhi : k.hi = hi) (hle : lo ≤ hi) (hw : k.week = true → lo = 0 ∧ hi = 6) {l : Bytes} : ∀ (xs : List Item) (s t : Nat), (∀ x ∈ xs, Shape l x) →
    setOf k xs s = (t, none) → (∀ i, t.testBit i = true → s.testBit i = true ∨ (lo ≤ i ∧ i ≤ hi)) ∧ (xs ≠ [] ∨ s ≠ 0 → t ≠ 0) := by
  intro xs
  induction xs with
  | nil =>
    intro s t _ h
    cases h
    refine ⟨fun i h => .inl h, fun h => ?_⟩
    rcases h with h | h
    · exact absurd rfl h
    · exact h
  | cons x xs ih =>
    intro s t hxs h
    unfold setOf at h
    split at h
    · cases h
    · rename_i hn
      obtain ⟨h1, h2⟩ := ih _ _ (fun y hy => hxs y (List.mem_cons_of_mem _ hy)) h
      have g := fun i => itemSet_good hlo hhi hle hw (hxs x (by simp)) hn s i
      refine ⟨fun i hi => ?_, fun _ => h2 (.inr (g 0).2)⟩
      rcases h1 i hi with h | h
      · exact (g i).1 h
      · exact .inr h
theorem setOf_wrong_lt {k : Kind} {l : Bytes} : ∀ (xs : List Item) (s t a : Nat), (∀ x ∈ xs, Shape l x) → setOf k xs s = (t, some a) → a < l.length := by
  intro xs
  induction xs with
  | nil => intro s t a _ h; cases h
  | cons x xs ih =>
    intro s t a hxs h
    unfold setOf at h
    split at h
    · rename_i b hb
      cases h
      exact wrongAt_lt (hxs x (by simp)) hb
    · exact ih _ _ _ (fun y hy => hxs y (List.mem_cons_of_mem _ hy)) h

/-- **What Parse returns of a kind that is allowed.** -/
theorem parse_facts {k : Kind} (hk : checkB k = true) (l : Bytes) :
    ((parse k l).2.2.2 = 0 ∧ (parse k l).1 ≠ 0 ∧ (parse k l).1 &&& full k = (parse k l).1 ∧ (parse k l).2.1 = (l == [42]) ∧ (parse k l).2.2.1 = 0) ∨
    ((parse k l).1 = 0 ∧ (parse k l).2.1 = false ∧ (((parse k l).2.2.2 = 10 ∧ (parse k l).2.2.1 ≤ l.length) ∨ ((parse k l).2.2.2 = 2 ∧ (parse k l).2.2.1 < l.length))) := by
  obtain ⟨lo, hi, hlo, hhi, hle, h62, hw⟩ := check_nat hk
  cases hi' : itemsAt k l (l.length + 1) 0 with
  | bad a =>
    have hp : parse k l = (0, false, a, 10) := by unfold parse; rw [if_pos hk, hi']
    rw [hp]
    exact .inr ⟨rfl, rfl, .inl ⟨rfl, itemsAt_bad_le _ _ _ (Nat.zero_le _) hi'⟩⟩
  | ok xs b =>
    obtain ⟨hne, hsh⟩ := itemsAt_shape _ _ _ _ hi'
    rcases hs : setOf k xs 0 with ⟨t, _ | a⟩
    · have hp : parse k l = (t, l == [42], 0, 0) := by unfold parse; rw [if_pos hk, hi']; simp only [hs]
      rw [hp]
      obtain ⟨h1, h2⟩ := setOf_good hlo hhi hle hw xs 0 t hsh hs
      refine .inl ⟨rfl, h2 (.inl hne), subset_of fun i h => ?_, rfl, rfl⟩
      rcases h1 i h with h | h
      · simp at h
      · exact (full_bit hlo hhi hle i).2 h
    · have hp : parse k l = (0, false, a, 2) := by unfold parse; rw [if_pos hk, hi']; simp only [hs]
      rw [hp]
      exact .inr ⟨rfl, rfl, .inr ⟨rfl, setOf_wrong_lt xs 0 t a hsh hs⟩⟩

theorem full_lt {k : Kind} (hk : checkB k = true) : full k < 18446744073709551616 := by
  obtain ⟨lo, hi, hlo, hhi, hle, h62, hw⟩ := check_nat hk
  rw [show (18446744073709551616 : Nat) = 2 ^ 64 from rfl]
  apply Nat.lt_pow_two_of_testBit
  intro i h
  cases hb : (full k).testBit i with
  | false => rfl
  | true => have := (full_bit hlo hhi hle i).1 hb; omega
theorem parse_lt {k : Kind} (hk : checkB k = true) (l : Bytes) : (parse k l).1 < 18446744073709551616 := by
  rcases parse_facts hk l with ⟨_, _, h, _⟩ | ⟨h, _⟩
  · rw [← h]; exact Nat.lt_of_le_of_lt Nat.and_le_right (full_lt hk)
  · rw [h]; decide
theorem parse_lt' (k : Kind) (l : Bytes) : (parse k l).1 < 18446744073709551616 := by
  cases hk : checkB k with
  | true => exact parse_lt hk l
  | false => unfold parse; rw [if_neg (by rw [hk]; simp)]; show 0 < _; decide
end Fs
end Go.Proofs.YtjnlgaeedcklaaaGreatDoor


namespace Go.Proofs.YtjnlgaeedcklaaaGreatDoor
namespace Xs
open Fs (Bytes)

def blank (c : UInt8) : Bool := c == 32 || c == 9

/-- The words of a text that is read from the place i on; cur has been read since the place from. -/
def cut : Bytes → Nat → Nat → Bytes → List (Nat × Bytes)
  | [], _, frm, cur => if cur = [] then [] else [(frm, cur)]
  | c :: r, i, frm, cur =>
    if blank c then (if cur = [] then [] else [(frm, cur)]) ++ cut r (i + 1) (i + 1) []
    else cut r (i + 1) frm (cur ++ [c])

/-- The words of a text, with their places. -/
def words (l : Bytes) : List (Nat × Bytes) := cut l 0 0 []

theorem cut_blank (c : UInt8) (r : Bytes) (i frm : Nat) (h : blank c = true) : cut (c :: r) i frm [] = cut r (i + 1) (i + 1) [] := by
  rw [cut, if_pos h, if_pos rfl, List.nil_append]
theorem cut_blanks : ∀ (bs r : Bytes) (i frm : Nat), bs.all blank = true → bs ≠ [] → cut (bs ++ r) i frm [] = cut r (i + bs.length) (i + bs.length) [] := by
  intro bs
  induction bs with
  | nil => intro r i frm _ h; exact absurd rfl h
  | cons c bs ih =>
    intro r i frm h _
    rw [List.all_cons, Bool.and_eq_true] at h
    rw [List.cons_append, cut_blank _ _ _ _ h.1, List.length_cons]
    by_cases hb : bs = []
    · subst hb; rfl
    · rw [ih r (i + 1) (i + 1) h.2 hb]
      rw [show i + 1 + bs.length = i + (bs.length + 1) from by omega]
/-- Where the words begin does not matter as long as nothing has been read. -/
theorem cut_from (bs r : Bytes) (i : Nat) (h : bs.all blank = true) : cut (bs ++ r) i i [] = cut r (i + bs.length) (i + bs.length) [] := by
  by_cases hb : bs = []
  · subst hb; rfl
  · exact cut_blanks bs r i i h hb
theorem cut_word : ∀ (w r : Bytes) (i frm : Nat) (cur : Bytes), w.all (fun c => !blank c) = true → (∀ c, r[0]? = some c → blank c = true) → cur ++ w ≠ [] →
    cut (w ++ r) i frm cur = (frm, cur ++ w) :: cut r (i + w.length) (i + w.length) [] := by
  intro w
  induction w with
  | nil =>
    intro r i frm cur _ hr hne
    rw [List.append_nil] at hne ⊢
    rw [List.nil_append, List.length_nil, Nat.add_zero]
    rcases r with _ | ⟨c, r⟩
    · rw [cut, if_neg hne, cut, if_pos rfl]
    · rw [cut, if_pos (hr c rfl), if_neg hne, cut_blank _ _ _ _ (hr c rfl)]; rfl
  | cons c w ih =>
    intro r i frm cur h hr _
    rw [List.all_cons, Bool.and_eq_true, Bool.not_eq_true'] at h
    rw [List.cons_append, cut, h.1]
    simp only [Bool.false_eq_true, if_false]
    rw [ih r (i + 1) frm (cur ++ [c]) h.2 hr (by simp), List.append_assoc, List.length_cons]
    rw [show i + 1 + w.length = i + (w.length + 1) from by omega]
    rfl
theorem cut_nil (i : Nat) : cut [] i i [] = [] := by rw [cut, if_pos rfl]

/-- An expression: its sets, and whether Day and Week are stars. -/
structure Ex where
  second : Nat
  minute : Nat
  hour : Nat
  day : Nat
  month : Nat
  week : Nat
  anyDay : Bool
  anyWeek : Bool
  deriving DecidableEq

def Ex.zero : Ex := ⟨0, 0, 0, 0, 0, 0, false, false⟩
def Ex.sets (x : Ex) : List Nat := [x.second, x.minute, x.hour, x.day, x.month, x.week]

/-- The fields that are read of some words, each by its kind: their sets and stars; or the place at which they are wrong, and the error. -/
inductive Got where
  | ok (l : List (Nat × Bool))
  | bad (at_ : Nat) (e : Int)

def fields (K : Nat → Fs.Kind) : Nat → List (Nat × Bytes) → Got
  | _, [] => .ok []
  | i, (a, w) :: ws =>
    if (Fs.parse (K i) w).2.2.2 = 0 then
      match fields K (i + 1) ws with
      | .ok l => .ok (((Fs.parse (K i) w).1, (Fs.parse (K i) w).2.1) :: l)
      | .bad p e => .bad p e
    else .bad (a + (Fs.parse (K i) w).2.2.1) (Fs.parse (K i) w).2.2.2

/-- The expression of six sets and stars. -/
def made : List (Nat × Bool) → Ex
  | [a, b, c, d, e, f] => ⟨a.1, b.1, c.1, d.1, e.1, f.1, d.2, f.2⟩
  | _ => Ex.zero

/-- What a text without a macro is read as: the expression, the place, the error. -/
def read (K : Nat → Fs.Kind) (ws : List (Nat × Bytes)) (len : Nat) : Ex × Nat × Int :=
  if ws.length < 5 then (Ex.zero, len, 10)
  else if 6 < ws.length then (Ex.zero, (ws.getD 6 (0, [])).1, 10)
  else match fields K (6 - ws.length) ws with
    | .bad p e => (Ex.zero, p, e)
    | .ok l => (made (if ws.length = 5 then (1, false) :: l else l), 0, 0)

def macroText (w : Bytes) : Option Bytes :=
  if w = [64, 121, 101, 97, 114, 108, 121] ∨ w = [64, 97, 110, 110, 117, 97, 108, 108, 121] then some [48, 32, 48, 32, 49, 32, 49, 32, 42]
  else if w = [64, 109, 111, 110, 116, 104, 108, 121] then some [48, 32, 48, 32, 49, 32, 42, 32, 42]
  else if w = [64, 119, 101, 101, 107, 108, 121] then some [48, 32, 48, 32, 42, 32, 42, 32, 48]
  else if w = [64, 100, 97, 105, 108, 121] ∨ w = [64, 109, 105, 100, 110, 105, 103, 104, 116] then some [48, 32, 48, 32, 42, 32, 42, 32, 42]
  else if w = [64, 104, 111, 117, 114, 108, 121] then some [48, 32, 42, 32, 42, 32, 42, 32, 42]
  else if w = [64, 109, 105, 110, 117, 116, 101, 108, 121] then some [42, 32, 42, 32, 42, 32, 42, 32, 42]
  else if w = [64, 115, 101, 99, 111, 110, 100, 108, 121] then some [42, 32, 42, 32, 42, 32, 42, 32, 42, 32, 42]
  else none

/-- Macro: the expression, and whether there is one. -/
def mac (K : Nat → Fs.Kind) (w : Bytes) : Ex × Bool :=
  match macroText w with
  | none => (Ex.zero, false)
  | some t => ((read K (words t) t.length).1, true)

/-- Parse. -/
def parse (K : Nat → Fs.Kind) (s : Bytes) : Ex × Nat × Int :=
  match words s with
  | [(a, w)] => if w[0]? = some 64 then (if (mac K w).2 then ((mac K w).1, 0, 0) else (Ex.zero, a, 10)) else read K [(a, w)] s.length
  | ws => read K ws s.length

/-- Check. -/
def checkB (K : Nat → Fs.Kind) (x : Ex) : Bool :=
  (x.sets.zipIdx.all fun p => decide (p.1 ≠ 0) && decide (p.1 &&& Fs.full (K p.2) = p.1)) &&
  !((x.anyDay && decide (x.day ≠ Fs.full (K 3))) || (x.anyWeek && decide (x.week ≠ Fs.full (K 5))))

/-- The star with which a field is written. -/
def starOf (K : Nat → Fs.Kind) (x : Ex) (i : Nat) (f : Nat) : Bool := if i = 3 then x.anyDay else if i = 5 then x.anyWeek else decide (f = Fs.full (K i))
/-- The texts of the fields. -/
def texts (K : Nat → Fs.Kind) (x : Ex) : List Bytes :=
  (x.sets.zipIdx.filter fun p => !(decide (p.2 = 0) && decide (p.1 = 1))).map fun p => (Fs.printB (K p.2) p.1 (starOf K x p.2 p.1)).1
/-- Texts with a blank between them. -/
def joinS : List Bytes → Bytes
  | [] => []
  | [t] => t
  | t :: l => t ++ 32 :: joinS l
/-- Print: the text and the error (16: a rule is broken). -/
def printX (K : Nat → Fs.Kind) (x : Ex) : Bytes × Int := if checkB K x then (joinS (texts K x), 0) else ([], 16)
def normalX (K : Nat → Fs.Kind) (s : Bytes) : Bytes × Nat × Int :=
  if (parse K s).2.2 = 0 then ((printX K (parse K s).1).1, 0, (printX K (parse K s).1).2) else ([], (parse K s).2.1, (parse K s).2.2)
end Xs
end Go.Proofs.YtjnlgaeedcklaaaGreatDoor

namespace Go.Proofs.YtjnlgaeedcklaaaGreatDoor
namespace Xs
open Fs (Bytes)

/-- What is asked of the six kinds. -/
structure Kinds (K : Nat → Fs.Kind) : Prop where
  ok : ∀ i, i < 6 → Fs.checkB (K i) = true
  star : ∀ i, i < 6 → Fs.parse (K i) [42] = (Fs.full (K i), true, 0, 0)
  pr : ∀ i, i < 6 → Fs.printB (K i) (Fs.full (K i)) true = ([42], 0)
  one : 1 &&& Fs.full (K 0) = 1

/-! ### The bytes of a written field -/
def tok (c : UInt8) : Bool := Fs.digitB c || c == 42 || c == 44 || c == 45 || c == 47
theorem tok_fin : ∀ n : Fin 256, tok (UInt8.ofNat n.val) = true → blank (UInt8.ofNat n.val) = false ∧ UInt8.ofNat n.val ≠ 64 := by decide +kernel
theorem tok_no {c : UInt8} (h : tok c = true) : blank c = false ∧ c ≠ 64 := by
  have h1 := tok_fin ⟨c.toNat, c.toNat_lt⟩
  have e : UInt8.ofNat c.toNat = c := by simp
  simp only at h1
  rw [e] at h1; exact h1 h

theorem dig_tok (n : Nat) (h : n < 100) : (Fs.dig n).all tok = true := by
  rw [List.all_eq_true]
  intro c hc
  have := List.all_eq_true.1 (Fs.dig_digit n h) c hc
  simp [tok, this]
theorem run_tok (r : Nat × Nat × Nat) (h1 : r.1 < 100) (h2 : r.2.1 < 100) (h3 : r.2.2 < 100) : (Fs.runText r).all tok = true ∧ Fs.runText r ≠ [] := by
  unfold Fs.runText
  have l1 := Fs.dig_len r.1 h1
  constructor
  · rw [List.all_append, List.all_append, dig_tok _ h1, Bool.true_and, Bool.and_eq_true]
    constructor
    · split
      · rfl
      · rw [List.all_cons, dig_tok _ h2]; rfl
    · split
      · rfl
      · rw [List.all_cons, dig_tok _ h3]; rfl
  · intro he
    have := congrArg List.length he
    simp only [List.length_append, List.length_nil] at this
    omega
theorem join_tok : ∀ ts : List Bytes, (∀ t ∈ ts, t.all tok = true ∧ t ≠ []) → (Fs.joinB ts).all tok = true ∧ (ts ≠ [] → Fs.joinB ts ≠ []) := by
  intro ts
  induction ts with
  | nil => intro _; exact ⟨rfl, fun h => absurd rfl h⟩
  | cons t ts ih =>
    intro h
    obtain ⟨h1, h2⟩ := h t (by simp)
    obtain ⟨h3, _⟩ := ih fun u hu => h u (List.mem_cons_of_mem _ hu)
    rcases ts with _ | ⟨u, ts⟩
    · exact ⟨h1, fun _ => h2⟩
    · rw [Fs.joinB]
      refine ⟨?_, fun _ he => ?_⟩
      · rw [List.all_append, h1, List.all_cons, h3]; rfl
      · have := congrArg List.length he
        simp at this

/-- What is written for a set: a word that is read as this set. -/
theorem print_word {k : Fs.Kind} (hk : Fs.checkB k = true) (hp : Fs.printB k (Fs.full k) true = ([42], 0)) (hs : Fs.parse k [42] = (Fs.full k, true, 0, 0)) (s : Nat) (star : Bool) (h0 : s ≠ 0) (hf : s &&& Fs.full k = s) (hst : star = true → s = Fs.full k) :
    ∃ T, Fs.printB k s star = (T, 0) ∧ Fs.parse k T = (s, star, 0, 0) ∧ T.all tok = true ∧ T ≠ [] := by
  cases star with
  | true =>
    have := hst rfl
    subst this
    exact ⟨[42], hp, hs, rfl, by simp⟩
  | false =>
    have hb : Fs.printB k s false = (Fs.joinB ((Fs.runsOf s).map Fs.runText), 0) := by
      have hneg : ¬ (Fs.checkB k = false ∨ s = 0 ∨ s &&& Fs.full k ≠ s ∨ (false = true ∧ s ≠ Fs.full k)) := by
        rintro (h | h | h | h)
        · rw [hk] at h; cases h
        · exact h0 h
        · exact h hf
        · cases h.1
      rw [Fs.printB, if_neg hneg]; rfl
    obtain ⟨lo, hi, hlo, hhi, hle, h62, hw⟩ := Fs.check_nat hk
    obtain ⟨h1, h2⟩ := Fs.runs_ok (Fs.elsOf s 64).length (Fs.elsOf s 64) (Nat.le_refl _) (Fs.elsOf_sorted s 64)
    have ht : ∀ t ∈ (Fs.runsOf s).map Fs.runText, t.all tok = true ∧ t ≠ [] := by
      intro t ht
      obtain ⟨r, hr, rfl⟩ := List.mem_map.1 ht
      obtain ⟨m1, m2, m3, m4, m5⟩ := h1 r hr
      have a1 := (Fs.elsOf_mem.1 m1).1
      have a2 := (Fs.elsOf_mem.1 m2).1
      exact run_tok r (by omega) (by omega) (by omega)
    obtain ⟨j1, j2⟩ := join_tok _ ht
    refine ⟨_, hb, Fs.print_parse hk s h0 hf, j1, ?_⟩
    intro he
    have hp' := Fs.print_parse hk s h0 hf
    rw [he] at hp'
    have hc : Fs.itemAt k [] 0 = .bad 0 := by
      unfold Fs.itemAt Fs.byteAt
      rw [Fs.valAt_nil (by intro c h; cases h)]
      rfl
    rw [Fs.parse_reads k _ hk, Fs.reads_one k [] 0 (by simp), hc] at hp'
    simp at hp'

/-! ### The words of texts with blanks between them -/
def placed : Nat → List Bytes → List (Nat × Bytes)
  | _, [] => []
  | i, t :: ts => (i, t) :: placed (i + t.length + 1) ts
theorem cut_join : ∀ (ts : List Bytes) (i : Nat), (∀ t ∈ ts, t.all tok = true ∧ t ≠ []) → cut (joinS ts) i i [] = placed i ts := by
  intro ts
  induction ts with
  | nil => intro i _; exact cut_nil i
  | cons t ts ih =>
    intro i h
    obtain ⟨h1, h2⟩ := h t (by simp)
    have hb : t.all (fun c => !blank c) = true := by
      rw [List.all_eq_true] at h1 ⊢
      intro c hc
      rw [(tok_no (h1 c hc)).1]; rfl
    rcases ts with _ | ⟨u, ts⟩
    · rw [joinS]
      have := cut_word t [] i i [] hb (by intro c h; cases h) (by simpa using h2)
      rw [List.append_nil, List.nil_append] at this
      rw [this, cut_nil]; rfl
    · show cut (t ++ 32 :: joinS (u :: ts)) i i [] = _
      have := cut_word t (32 :: joinS (u :: ts)) i i [] hb (by intro c h; simp at h; subst h; rfl) (by simpa using h2)
      rw [List.nil_append] at this
      rw [this, cut_blank _ _ _ _ (by rfl), ih _ fun v hv => h v (List.mem_cons_of_mem _ hv)]
      rfl
theorem placed_len : ∀ (ts : List Bytes) (i : Nat), (placed i ts).length = ts.length := by
  intro ts
  induction ts with
  | nil => intro i; rfl
  | cons t ts ih => intro i; simp [placed, ih]

/-- The fields of words that are read. -/
theorem fields_placed (K : Nat → Fs.Kind) : ∀ (ts : List Bytes) (gs : List (Nat × Bool)) (j i : Nat), ts.length = gs.length → (∀ n t g, ts[n]? = some t → gs[n]? = some g → Fs.parse (K (j + n)) t = (g.1, g.2, 0, 0)) → fields K j (placed i ts) = .ok gs := by
  intro ts
  induction ts with
  | nil =>
    intro gs j i h _
    rcases gs with _ | ⟨g, gs⟩
    · rfl
    · cases h
  | cons t ts ih =>
    intro gs j i h hp
    rcases gs with _ | ⟨g, gs⟩
    · cases h
    · have h0 := hp 0 t g rfl rfl
      rw [Nat.add_zero] at h0
      rw [placed, fields, h0]
      simp only [if_true]
      rw [ih gs (j + 1) _ (by simpa using h) fun n u v hu hv => by
        have := hp (n + 1) u v (by simpa using hu) (by simpa using hv)
        rw [show j + 1 + n = j + (n + 1) from by omega]; exact this]

theorem check_all {K : Nat → Fs.Kind} {x : Ex} (h : checkB K x = true) :
    (∀ i s, x.sets[i]? = some s → s ≠ 0 ∧ s &&& Fs.full (K i) = s) ∧ (x.anyDay = true → x.day = Fs.full (K 3)) ∧ (x.anyWeek = true → x.week = Fs.full (K 5)) := by
  unfold checkB at h
  rw [Bool.and_eq_true] at h
  obtain ⟨h1, h2⟩ := h
  refine ⟨fun i s hs => ?_, fun h => ?_, fun h => ?_⟩
  · have := List.all_eq_true.1 h1 (s, i) (by
      rw [List.mem_iff_getElem?]
      exact ⟨i, by rw [List.getElem?_zipIdx, hs]; simp⟩)
    simpa using this
  · simp [h] at h2; exact h2.1
  · simp [h] at h2; exact h2.2
end Xs
end Go.Proofs.YtjnlgaeedcklaaaGreatDoor

namespace Go.Proofs.YtjnlgaeedcklaaaGreatDoor
namespace Xs
open Fs (Bytes)

/-! ### One word -/
/-- The text behind the blanks ahead. -/
def af (l : Bytes) : Bytes := l.dropWhile blank
/-- The word ahead, and what is behind it. -/
def wd (l : Bytes) : Bytes := (af l).takeWhile fun c => !blank c
def rs (l : Bytes) : Bytes := (af l).dropWhile fun c => !blank c

theorem all_takeWhile' (p : UInt8 → Bool) : ∀ l : Bytes, (l.takeWhile p).all p = true := by
  intro l
  induction l with
  | nil => rfl
  | cons c l ih =>
    rw [List.takeWhile_cons]
    split
    · rename_i h; rw [List.all_cons, h, ih]; rfl
    · rfl
theorem dropWhile_head (p : UInt8 → Bool) : ∀ (l : Bytes) (c : UInt8), (l.dropWhile p)[0]? = some c → p c = false := by
  intro l
  induction l with
  | nil => intro c h; cases h
  | cons a l ih =>
    intro c h
    rw [List.dropWhile_cons] at h
    split at h
    · exact ih c h
    · rename_i hn
      simp at h
      subst h
      simpa using hn
theorem af_split (l : Bytes) : l = l.takeWhile blank ++ af l := (List.takeWhile_append_dropWhile ..).symm
theorem wd_split (l : Bytes) : af l = wd l ++ rs l := (List.takeWhile_append_dropWhile ..).symm
theorem af_len (l : Bytes) : (l.takeWhile blank).length + (af l).length = l.length := by
  have := congrArg List.length (af_split l); rw [List.length_append] at this; omega
theorem wd_len (l : Bytes) : (wd l).length + (rs l).length = (af l).length := by
  have := congrArg List.length (wd_split l); rw [List.length_append] at this; omega
theorem wd_ne {l : Bytes} (h : af l ≠ []) : wd l ≠ [] := by
  obtain ⟨c, r, hc⟩ : ∃ c r, af l = c :: r := by
    cases hh : af l with
    | nil => exact absurd hh h
    | cons c r => exact ⟨c, r, rfl⟩
  have h0 : blank c = false := dropWhile_head blank l c (by show (af l)[0]? = _; rw [hc]; rfl)
  unfold wd
  rw [hc, List.takeWhile_cons, h0]
  simp
theorem wd_word (l : Bytes) : (wd l).all (fun c => !blank c) = true := all_takeWhile' _ _
theorem rs_head (l : Bytes) (c : UInt8) (h : (rs l)[0]? = some c) : blank c = true := by
  have := dropWhile_head _ _ c h
  simpa using this

/-- The words of a text, one ahead. -/
theorem cut_next (l : Bytes) (k : Nat) : cut l k k [] = if af l = [] then [] else
    (k + (l.length - (af l).length), wd l) :: cut (rs l) (k + (l.length - (af l).length) + (wd l).length) (k + (l.length - (af l).length) + (wd l).length) [] := by
  have hlen : l.length - (af l).length = (l.takeWhile blank).length := by have := af_len l; omega
  rw [hlen]
  have h1 := cut_from (l.takeWhile blank) (af l) k (all_takeWhile' _ _)
  rw [← af_split] at h1
  rw [h1]
  split
  · rename_i h; rw [h, cut_nil]
  · rename_i h
    have h2 := cut_word (wd l) (rs l) (k + (l.takeWhile blank).length) (k + (l.takeWhile blank).length) [] (wd_word l) (rs_head l) (by rw [List.nil_append]; exact wd_ne h)
    rw [← wd_split, List.nil_append] at h2
    exact h2

/-! ### The library's words: the blanks are the bytes 32 and 9 -/
theorem blank_in (c : UInt8) : ([32, 9] : List UInt8).contains c = blank c := by
  unfold blank
  rw [List.contains_cons, List.contains_cons, List.contains_nil, Bool.or_false]
theorem trim_af (l : Bytes) : Lib.trimLeftS l [32, 9] = af l := by
  unfold Lib.trimLeftS af
  congr 1
  funext c
  exact blank_in c
theorem index_word : ∀ r : Bytes, Lib.indexAny r [32, 9] = if r.dropWhile (fun c => !blank c) = [] then -1 else ((r.takeWhile fun c => !blank c).length : Int) := by
  intro r
  induction r with
  | nil => rfl
  | cons c r ih =>
    rw [Lib.indexAny, blank_in]
    cases hb : blank c with
    | true =>
      rw [List.dropWhile_cons, List.takeWhile_cons]
      simp [hb]
    | false =>
      rw [List.dropWhile_cons, List.takeWhile_cons, ih]
      simp only [hb, Bool.not_false, if_true, Bool.false_eq_true, if_false, List.length_cons]
      by_cases h : r.dropWhile (fun c => !blank c) = []
      · simp [h]
      · simp only [h, if_false]
        rw [if_neg]
        all_goals first | done | rfl | simp | (simp; omega)
theorem index_wd (l : Bytes) : Lib.indexAny (af l) [32, 9] = if rs l = [] then -1 else ((wd l).length : Int) := index_word (af l)

theorem dropWhile_all (p : UInt8 → Bool) : ∀ (a b : Bytes), a.all p = true → (a ++ b).dropWhile p = b.dropWhile p := by
  intro a
  induction a with
  | nil => intro b _; rfl
  | cons c a ih =>
    intro b h
    rw [List.all_cons, Bool.and_eq_true] at h
    rw [List.cons_append, List.dropWhile_cons, if_pos h.1]
    exact ih b h.2
theorem dropWhile_len (p : UInt8 → Bool) : ∀ a : Bytes, (a.dropWhile p).length ≤ a.length := by
  intro a
  induction a with
  | nil => exact Nat.le_refl _
  | cons c a ih =>
    rw [List.dropWhile_cons]
    split
    · rw [List.length_cons]; omega
    · exact Nat.le_refl _
theorem af_nil {l : Bytes} : af l = [] ↔ l.all blank = true := by
  constructor
  · intro h
    have := af_split l
    rw [h, List.append_nil] at this
    rw [this]; exact all_takeWhile' _ _
  · intro h
    have := dropWhile_all blank l [] h
    rw [List.append_nil] at this
    exact this
/-- Behind the first word is no other: TrimRight leaves this word alone. -/
theorem trim_one (l : Bytes) (h : af l ≠ []) : (Lib.trimRightS (af l) [32, 9] = wd l) ↔ af (rs l) = [] := by
  have hp : (fun c => ([32, 9] : List UInt8).contains c) = blank := by funext c; exact blank_in c
  unfold Lib.trimRightS
  rw [show ((af l).reverse.dropWhile (([32, 9] : List UInt8).contains ·)) = (af l).reverse.dropWhile blank from by rw [← hp]]
  rw [af_nil, wd_split l, List.reverse_append]
  constructor
  · intro he
    have he' : ((rs l).reverse ++ (wd l).reverse).dropWhile blank = (wd l).reverse := by
      have := congrArg List.reverse he
      rw [List.reverse_reverse] at this
      exact this
    by_cases hd : (rs l).reverse.dropWhile blank = []
    · have := af_split (rs l).reverse
      rw [show af (rs l).reverse = [] from hd, List.append_nil] at this
      have h2 := all_takeWhile' blank (rs l).reverse
      rw [← this, List.all_reverse] at h2
      exact h2
    · exfalso
      have h3 : ((rs l).reverse ++ (wd l).reverse).dropWhile blank = (rs l).reverse.dropWhile blank ++ (wd l).reverse := by
        generalize (rs l).reverse = a at hd ⊢
        generalize (wd l).reverse = b
        induction a with
        | nil => exact absurd rfl hd
        | cons c a ih =>
          rw [List.cons_append, List.dropWhile_cons, List.dropWhile_cons]
          rw [List.dropWhile_cons] at hd
          split
          · rename_i hc; rw [if_pos hc] at hd; exact ih hd
          · rfl
      rw [h3] at he'
      have := congrArg List.length he'
      rw [List.length_append] at this
      have hpos : 0 < ((rs l).reverse.dropWhile blank).length := List.length_pos_iff.2 hd
      omega
  · intro ha
    rw [dropWhile_all blank _ _ (by rw [List.all_reverse]; exact ha)]
    have hw := wd_word l
    have hn := wd_ne h
    generalize wd l = u at hw hn
    have h1 : u.reverse.dropWhile blank = u.reverse := by
      rw [← List.all_reverse] at hw
      cases hr : u.reverse with
      | nil => rfl
      | cons c r =>
        rw [hr, List.all_cons, Bool.and_eq_true, Bool.not_eq_true'] at hw
        rw [List.dropWhile_cons, hw.1]
        simp
    rw [h1, List.reverse_reverse]

/-- The first word of a text decides on macros. -/
theorem words_first (s : Bytes) : words s = if af s = [] then [] else (s.length - (af s).length, wd s) :: cut (rs s) (s.length - (af s).length + (wd s).length) (s.length - (af s).length + (wd s).length) [] := by
  unfold words
  rw [cut_next]
  simp only [Nat.zero_add]
theorem parse_macro (K : Nat → Fs.Kind) (s : Bytes) (h : af s ≠ []) (hw : (wd s)[0]? = some 64) (hr : af (rs s) = []) :
    parse K s = if (mac K (wd s)).2 then ((mac K (wd s)).1, 0, 0) else (Ex.zero, s.length - (af s).length, 10) := by
  have hws : words s = [(s.length - (af s).length, wd s)] := by rw [words_first, if_neg h, cut_next, if_pos hr]
  unfold parse
  rw [hws]
  simp only [hw, if_true]
theorem parse_read (K : Nat → Fs.Kind) (s : Bytes) (h : af s = [] ∨ (wd s)[0]? ≠ some 64 ∨ af (rs s) ≠ []) : parse K s = read K (words s) s.length := by
  unfold parse
  by_cases ha : af s = []
  · have hws : words s = [] := by rw [words_first, if_pos ha]
    rw [hws]
  · by_cases hr : af (rs s) = []
    · have hws : words s = [(s.length - (af s).length, wd s)] := by rw [words_first, if_neg ha, cut_next, if_pos hr]
      rw [hws]
      have : (wd s)[0]? ≠ some 64 := by
        rcases h with h | h | h
        · exact absurd h ha
        · exact h
        · exact absurd hr h
      simp only [this, if_false]
    · have hws := words_first s
      rw [if_neg ha, cut_next, if_neg hr] at hws
      rw [hws]
end Xs
end Go.Proofs.YtjnlgaeedcklaaaGreatDoor

namespace Go.Proofs.YtjnlgaeedcklaaaGreatDoor
namespace Xs
open Fs (Bytes)

/-- A field that is read. -/
def GoodF (K : Nat → Fs.Kind) (i : Nat) (g : Nat × Bool) : Prop := g.1 ≠ 0 ∧ g.1 &&& Fs.full (K i) = g.1 ∧ (g.2 = true → g.1 = Fs.full (K i))

theorem good_parse {K : Nat → Fs.Kind} (hK : Kinds K) {i : Nat} (hi : i < 6) {w : Bytes} (h : (Fs.parse (K i) w).2.2.2 = 0) : GoodF K i ((Fs.parse (K i) w).1, (Fs.parse (K i) w).2.1) := by
  rcases Fs.parse_facts (hK.ok i hi) w with ⟨_, h1, h2, h3, _⟩ | ⟨_, _, h1⟩
  · refine ⟨h1, h2, fun hs => ?_⟩
    simp only at hs ⊢
    rw [h3, beq_iff_eq] at hs
    rw [hs, hK.star i hi]
  · rcases h1 with h1 | h1 <;> omega

theorem fields_ok {K : Nat → Fs.Kind} (hK : Kinds K) : ∀ (ws : List (Nat × Bytes)) (j : Nat) (l : List (Nat × Bool)), j + ws.length ≤ 6 → fields K j ws = .ok l → l.length = ws.length ∧ ∀ n g, l[n]? = some g → GoodF K (j + n) g := by
  intro ws
  induction ws with
  | nil =>
    intro j l _ h
    rw [fields] at h
    injection h with h; subst h
    exact ⟨rfl, fun n g h => by cases h⟩
  | cons p ws ih =>
    obtain ⟨a, w⟩ := p
    intro j l hj h
    rw [List.length_cons] at hj
    rw [fields] at h
    split at h
    · rename_i h0
      split at h
      · rename_i l' hl'
        injection h with h; subst h
        obtain ⟨h1, h2⟩ := ih (j + 1) l' (by omega) hl'
        refine ⟨by rw [List.length_cons, List.length_cons, h1], fun n g hg => ?_⟩
        rcases n with _ | n
        · simp at hg; subst hg; exact good_parse hK (by omega) h0
        · have := h2 n g (by simpa using hg)
          rw [show j + (n + 1) = j + 1 + n from by omega]; exact this
      · cases h
    · cases h

theorem fields_bad {K : Nat → Fs.Kind} (hK : Kinds K) (N : Nat) : ∀ (ws : List (Nat × Bytes)) (j p : Nat) (e : Int), j + ws.length ≤ 6 → (∀ q ∈ ws, q.1 + q.2.length ≤ N) → fields K j ws = .bad p e → p ≤ N ∧ (e = 10 ∨ e = 2) := by
  intro ws
  induction ws with
  | nil => intro j p e _ _ h; cases h
  | cons q ws ih =>
    obtain ⟨a, w⟩ := q
    intro j p e hj hq h
    rw [List.length_cons] at hj
    have hq0 := hq (a, w) (by simp)
    simp only at hq0
    rw [fields] at h
    split at h
    · split at h
      · cases h
      · rename_i p' e' hb
        injection h with h1 h2; subst h1; subst h2
        exact ih (j + 1) _ _ (by omega) (fun q hm => hq q (List.mem_cons_of_mem _ hm)) hb
    · rename_i h0
      injection h with h1 h2
      rcases Fs.parse_facts (hK.ok j (by omega)) w with ⟨h3, _⟩ | ⟨_, _, h3⟩
      · exact absurd h3 h0
      · omega

theorem cut_in : ∀ (l : Bytes) (i frm : Nat) (cur : Bytes), frm + cur.length ≤ i → ∀ q ∈ cut l i frm cur, q.1 + q.2.length ≤ i + l.length := by
  intro l
  induction l with
  | nil =>
    intro i frm cur h q hq
    rw [cut] at hq
    split at hq
    · cases hq
    · simp at hq; subst hq; simpa using h
  | cons c l ih =>
    intro i frm cur h q hq
    rw [cut] at hq
    rw [List.length_cons]
    split at hq
    · rw [List.mem_append] at hq
      rcases hq with hq | hq
      · split at hq
        · cases hq
        · simp at hq; subst hq
          show frm + cur.length ≤ _
          omega
      · have := ih (i + 1) (i + 1) [] (by simp) q hq
        omega
    · have := ih (i + 1) frm (cur ++ [c]) (by simp; omega) q hq
      omega
theorem words_in (s : Bytes) : ∀ q ∈ words s, q.1 + q.2.length ≤ s.length := by
  intro q hq
  have := cut_in s 0 0 [] (Nat.le_refl _) q hq
  omega

theorem check_of {K : Nat → Fs.Kind} {a b c d e f : Nat × Bool} (ha : GoodF K 0 a) (hb : GoodF K 1 b) (hc : GoodF K 2 c) (hd : GoodF K 3 d) (he : GoodF K 4 e) (hf : GoodF K 5 f) : checkB K (made [a, b, c, d, e, f]) = true := by
  obtain ⟨a1, a2, a3⟩ := ha
  obtain ⟨b1, b2, b3⟩ := hb
  obtain ⟨c1, c2, c3⟩ := hc
  obtain ⟨d1, d2, d3⟩ := hd
  obtain ⟨e1, e2, e3⟩ := he
  obtain ⟨f1, f2, f3⟩ := hf
  simp only [checkB, made, Ex.sets, List.zipIdx_cons, List.zipIdx_nil, List.all_cons, List.all_nil, Bool.and_true, Nat.zero_add, Nat.reduceAdd, a2, b2, c2, d2, e2, f2, ne_eq, a1, b1, c1, d1, e1, f1, not_false_eq_true, decide_true, Bool.and_self, Bool.true_and, Bool.not_eq_true', Bool.or_eq_false_iff, Bool.and_eq_false_iff, decide_eq_false_iff_not, Classical.not_not]
  constructor
  · cases hd : d.2 with
    | true => exact .inr (decide_eq_false fun hn => hn (d3 hd))
    | false => exact .inl rfl
  · cases hf : f.2 with
    | true => exact .inr (decide_eq_false fun hn => hn (f3 hf))
    | false => exact .inl rfl

theorem list_five {α : Type} {l : List α} (h : l.length = 5) : ∃ a b c d e, l = [a, b, c, d, e] := by
  rcases l with _ | ⟨a, _ | ⟨b, _ | ⟨c, _ | ⟨d, _ | ⟨e, _ | ⟨f, l⟩⟩⟩⟩⟩⟩ <;> simp at h
  exact ⟨a, b, c, d, e, rfl⟩
theorem list_six {α : Type} {l : List α} (h : l.length = 6) : ∃ a b c d e f, l = [a, b, c, d, e, f] := by
  rcases l with _ | ⟨a, l⟩
  · cases h
  · obtain ⟨b, c, d, e, f, rfl⟩ := list_five (l := l) (by simpa using h)
    exact ⟨a, b, c, d, e, f, rfl⟩

/-- What is read is valid; what is not read is wrong in the text, or behind it. -/
theorem read_facts {K : Nat → Fs.Kind} (hK : Kinds K) (ws : List (Nat × Bytes)) (N : Nat) (hq : ∀ q ∈ ws, q.1 + q.2.length ≤ N) :
    ((read K ws N).2.2 = 0 ∧ (read K ws N).2.1 = 0 ∧ checkB K (read K ws N).1 = true) ∨
    ((read K ws N).1 = Ex.zero ∧ (read K ws N).2.1 ≤ N ∧ ((read K ws N).2.2 = 10 ∨ (read K ws N).2.2 = 2)) := by
  unfold read
  split
  · exact .inr ⟨rfl, Nat.le_refl _, .inl rfl⟩
  · split
    · rename_i h5 h6
      right
      refine ⟨rfl, ?_, .inl rfl⟩
      have hm : ws.getD 6 (0, []) ∈ ws := by
        rw [List.getD_eq_getElem?_getD, List.getElem?_eq_getElem h6]
        exact List.getElem_mem h6
      have := hq _ hm
      show (ws.getD 6 (0, [])).1 ≤ N
      omega
    · rename_i h5 h6
      split
      · rename_i p e hb
        right
        obtain ⟨h1, h2⟩ := fields_bad hK N ws (6 - ws.length) p e (by omega) hq hb
        exact ⟨rfl, h1, h2⟩
      · rename_i l hl
        left
        refine ⟨rfl, rfl, ?_⟩
        obtain ⟨h1, h2⟩ := fields_ok hK ws (6 - ws.length) l (by omega) hl
        show checkB K (made (if ws.length = 5 then (1, false) :: l else l)) = true
        by_cases h : ws.length = 5
        · rw [if_pos h]
          rw [h] at h1 h2
          obtain ⟨b, c, d, e, f, rfl⟩ := list_five h1
          exact check_of ⟨by simp, hK.one, fun h => by cases h⟩ (h2 0 _ rfl) (h2 1 _ rfl) (h2 2 _ rfl) (h2 3 _ rfl) (h2 4 _ rfl)
        · rw [if_neg h]
          have h' : ws.length = 6 := by omega
          rw [h'] at h1 h2
          obtain ⟨a, b, c, d, e, f, rfl⟩ := list_six h1
          exact check_of (h2 0 _ rfl) (h2 1 _ rfl) (h2 2 _ rfl) (h2 3 _ rfl) (h2 4 _ rfl) (h2 5 _ rfl)

/-- The texts of the macros are read. -/
def MacOk (K : Nat → Fs.Kind) : Prop := ∀ w t, macroText w = some t → (read K (words t) t.length).2.2 = 0

theorem parse_factsX {K : Nat → Fs.Kind} (hK : Kinds K) (hM : MacOk K) (s : Bytes) :
    ((parse K s).2.2 = 0 ∧ (parse K s).2.1 = 0 ∧ checkB K (parse K s).1 = true) ∨
    ((parse K s).1 = Ex.zero ∧ (parse K s).2.1 ≤ s.length ∧ ((parse K s).2.2 = 10 ∨ (parse K s).2.2 = 2)) := by
  by_cases h : af s ≠ [] ∧ (wd s)[0]? = some 64 ∧ af (rs s) = []
  · obtain ⟨h1, h2, h3⟩ := h
    rw [parse_macro K s h1 h2 h3]
    split
    · rename_i hm
      left
      refine ⟨rfl, rfl, ?_⟩
      show checkB K (mac K (wd s)).1 = true
      unfold mac at hm ⊢
      cases ht : macroText (wd s) with
      | none => rw [ht] at hm; cases hm
      | some t =>
        have h0 := hM _ _ ht
        rcases read_facts hK (words t) t.length (words_in t) with ⟨_, _, h⟩ | ⟨_, _, h⟩
        · exact h
        · omega
    · exact .inr ⟨rfl, Nat.sub_le _ _, .inl rfl⟩
  · rw [parse_read K s (by
      by_cases h1 : af s = []
      · exact .inl h1
      · by_cases h2 : (wd s)[0]? = some 64
        · exact .inr (.inr fun h3 => h ⟨h1, h2, h3⟩)
        · exact .inr (.inl h2))]
    exact read_facts hK _ _ (words_in s)

/-! ### What is printed is read -/
def txt (K : Nat → Fs.Kind) (x : Ex) (i f : Nat) : Bytes := (Fs.printB (K i) f (starOf K x i f)).1

theorem texts_eq (K : Nat → Fs.Kind) (x : Ex) : texts K x = (if x.second = 1 then [] else [txt K x 0 x.second]) ++ [txt K x 1 x.minute, txt K x 2 x.hour, txt K x 3 x.day, txt K x 4 x.month, txt K x 5 x.week] := by
  unfold texts txt
  by_cases h : x.second = 1 <;> simp [Ex.sets, h]

theorem txt_ok {K : Nat → Fs.Kind} (hK : Kinds K) {x : Ex} (hc : checkB K x = true) {i s : Nat} (hi : i < 6) (hs : x.sets[i]? = some s) :
    Fs.printB (K i) s (starOf K x i s) = (txt K x i s, 0) ∧ Fs.parse (K i) (txt K x i s) = (s, starOf K x i s, 0, 0) ∧ (txt K x i s).all tok = true ∧ txt K x i s ≠ [] := by
  obtain ⟨h1, h2, h3⟩ := check_all hc
  obtain ⟨h4, h5⟩ := h1 i s hs
  obtain ⟨T, t1, t2, t3, t4⟩ := print_word (hK.ok i hi) (hK.pr i hi) (hK.star i hi) s (starOf K x i s) h4 h5 (by
    intro h
    unfold starOf at h
    split at h
    · rename_i hi3; subst hi3
      have : s = x.day := by simp [Ex.sets] at hs; exact hs.symm
      rw [this]; exact h2 h
    · split at h
      · rename_i hi5; subst hi5
        have : s = x.week := by simp [Ex.sets] at hs; exact hs.symm
        rw [this]; exact h3 h
      · simpa using h)
  have : txt K x i s = T := by unfold txt; rw [t1]
  rw [this]
  exact ⟨t1, t2, t3, t4⟩

/-- The sets of an expression, with the stars with which they are written. -/
def shown (K : Nat → Fs.Kind) (x : Ex) : List (Nat × Bool) := [(x.minute, starOf K x 1 x.minute), (x.hour, starOf K x 2 x.hour), (x.day, x.anyDay), (x.month, starOf K x 4 x.month), (x.week, x.anyWeek)]

theorem texts_good {K : Nat → Fs.Kind} (hK : Kinds K) {x : Ex} (hc : checkB K x = true) : ∀ t ∈ texts K x, t.all tok = true ∧ t ≠ [] := by
  intro t ht
  rw [texts_eq] at ht
  have g := fun i s hi hs => (txt_ok hK hc (i := i) (s := s) hi hs).2.2
  have g0 := g 0 x.second (by omega) rfl
  have g1 := g 1 x.minute (by omega) rfl
  have g2 := g 2 x.hour (by omega) rfl
  have g3 := g 3 x.day (by omega) rfl
  have g4 := g 4 x.month (by omega) rfl
  have g5 := g 5 x.week (by omega) rfl
  rw [List.mem_append] at ht
  rcases ht with ht | ht
  · split at ht
    · cases ht
    · simp at ht; subst ht; exact g0
  · simp at ht
    rcases ht with rfl | rfl | rfl | rfl | rfl <;> assumption

theorem words_join {ts : List Bytes} (h : ∀ t ∈ ts, t.all tok = true ∧ t ≠ []) : words (joinS ts) = placed 0 ts := cut_join ts 0 h

theorem texts_len (K : Nat → Fs.Kind) (x : Ex) : (texts K x).length = if x.second = 1 then 5 else 6 := by
  rw [texts_eq]; split <;> rfl

theorem parse_many (K : Nat → Fs.Kind) (s : Bytes) (h : (words s).length ≠ 1) : parse K s = read K (words s) s.length := by
  unfold parse
  split
  · rename_i a w hw
    rw [hw] at h; exact absurd rfl h
  · rfl

/-- The stage's theorem. -/
theorem back {K : Nat → Fs.Kind} (hK : Kinds K) {x : Ex} (hc : checkB K x = true) : parse K (joinS (texts K x)) = (x, 0, 0) := by
  have hw := words_join (texts_good hK hc)
  have hl := texts_len K x
  have hpl : (placed 0 (texts K x)).length = (texts K x).length := placed_len _ _
  rw [parse_many K _ (by rw [hw, hpl, hl]; split <;> omega), hw]
  have g := fun i s hi hs => (txt_ok hK hc (i := i) (s := s) hi hs).2.1
  have g0 := g 0 x.second (by omega) rfl
  have g1 := g 1 x.minute (by omega) rfl
  have g2 := g 2 x.hour (by omega) rfl
  have g3 := g 3 x.day (by omega) rfl
  have g4 := g 4 x.month (by omega) rfl
  have g5 := g 5 x.week (by omega) rfl
  by_cases h1 : x.second = 1
  · rw [if_pos h1] at hl
    have hf := fields_placed K (texts K x) (shown K x) 1 0 (by rw [hl]; rfl) (by
      intro n t q ht hq
      rw [texts_eq, if_pos h1, List.nil_append] at ht
      unfold shown at hq
      rcases n with _ | _ | _ | _ | _ | n
      · simp at ht hq; subst ht; subst hq; exact g1
      · simp at ht hq; subst ht; subst hq; exact g2
      · simp at ht hq; subst ht; subst hq; exact g3
      · simp at ht hq; subst ht; subst hq; exact g4
      · simp at ht hq; subst ht; subst hq; exact g5
      · simp at ht)
    unfold read
    rw [hpl, hl]
    rw [show 6 - 5 = 1 from rfl, hf]
    simp [shown, made]
    cases x; simp at h1 ⊢; exact h1.symm
  · rw [if_neg h1] at hl
    have hf := fields_placed K (texts K x) ((x.second, starOf K x 0 x.second) :: shown K x) 0 0 (by rw [hl]; rfl) (by
      intro n t q ht hq
      rw [texts_eq, if_neg h1] at ht
      unfold shown at hq
      rcases n with _ | _ | _ | _ | _ | _ | n
      · simp at ht hq; subst ht; subst hq; exact g0
      · simp at ht hq; subst ht; subst hq; exact g1
      · simp at ht hq; subst ht; subst hq; exact g2
      · simp at ht hq; subst ht; subst hq; exact g3
      · simp at ht hq; subst ht; subst hq; exact g4
      · simp at ht hq; subst ht; subst hq; exact g5
      · simp at ht)
    unfold read
    rw [hpl, hl]
    rw [show 6 - 6 = 0 from rfl, hf]
    simp [shown, made]
end Xs
end Go.Proofs.YtjnlgaeedcklaaaGreatDoor

namespace Go.Proofs.YtjnlgaeedcklaaaGreatDoor
namespace Xs

structure FullDays (K : Nat → Fs.Kind) : Prop where
  day : ∀ d, 1 ≤ d → d ≤ 31 → (Fs.full (K 3)).testBit d = true
  week : ∀ w, w ≤ 6 → (Fs.full (K 5)).testBit w = true
end Xs
end Go.Proofs.YtjnlgaeedcklaaaGreatDoor


namespace Go.Proofs.YtjnlgaeedcklaaaGreatDoor
namespace Xs

/-- How many of the lowest n bits are set. -/
def cnt : Nat → Nat → Nat
  | 0, _ => 0
  | n + 1, x => x % 2 + cnt n (x / 2)

theorem cnt_add : ∀ m n x : Nat, cnt (m + n) x = cnt m x + cnt n (x / 2 ^ m) := by
  intro m
  induction m with
  | zero => intro n x; simp [cnt]
  | succ m ih =>
    intro n x
    rw [show m + 1 + n = (m + n) + 1 from by omega, cnt, ih, cnt, Nat.div_div_eq_div_mul, Nat.pow_succ, Nat.mul_comm 2]
    omega
theorem cnt_step (v x : Nat) : cnt (v + 1) x = cnt v x + x / 2 ^ v % 2 := by
  rw [cnt_add]; simp [cnt]
theorem cnt_mod : ∀ m x : Nat, cnt m (x % 2 ^ m) = cnt m x := by
  intro m
  induction m with
  | zero => intro x; rfl
  | succ m ih =>
    intro x
    have h1 : x % 2 ^ (m + 1) % 2 = x % 2 := Nat.mod_mod_of_dvd x ⟨2 ^ m, by rw [Nat.pow_succ, Nat.mul_comm]⟩
    have h2 : x % 2 ^ (m + 1) / 2 = x / 2 % 2 ^ m := by rw [Nat.pow_succ, Nat.mul_comm, Nat.mod_mul_right_div_self]
    rw [cnt, cnt, h1, h2, ih]
theorem cnt_le : ∀ n x : Nat, cnt n x ≤ n := by
  intro n
  induction n with
  | zero => intro x; exact Nat.le_refl _
  | succ n ih => intro x; have := ih (x / 2); rw [cnt]; omega
theorem cnt_zero : ∀ n : Nat, cnt n 0 = 0 := by
  intro n
  induction n with
  | zero => rfl
  | succ n ih => rw [cnt]; simpa using ih
/-- A number below 2 ^ m has no bits beyond. -/
theorem cnt_small (m n x : Nat) (h : x < 2 ^ m) : cnt (m + n) x = cnt m x := by
  rw [cnt_add, Nat.div_eq_of_lt h, cnt_zero]; rfl
theorem cnt_pos : ∀ (n x : Nat), x < 2 ^ n → x ≠ 0 → 0 < cnt n x := by
  intro n
  induction n with
  | zero => intro x h1 h2; simp at h1; exact absurd h1 h2
  | succ n ih =>
    intro x h1 h2
    rw [cnt]
    by_cases h : x % 2 = 1
    · omega
    · have := ih (x / 2) (by rw [Nat.pow_succ] at h1; omega) (by omega)
      omega

/-! ### By bytes -/
def ofB : List Nat → Nat
  | [] => 0
  | a :: l => a + 256 * ofB l
def rep (m : Nat) : Nat → Nat
  | 0 => 0
  | n + 1 => m + 256 * rep m n

theorem and_block {a m : Nat} (b n : Nat) (ha : a < 256) (hm : m < 256) : (a + 256 * b) &&& (m + 256 * n) = (a &&& m) + 256 * (b &&& n) := by
  have h256 : (256 : Nat) = 2 ^ 8 := rfl
  have t : ∀ x y : Nat, x < 256 → x + 256 * y = 2 ^ 8 * y + x := fun x y _ => by rw [h256]; omega
  have hc : (a &&& m) < 2 ^ 8 := Nat.lt_of_le_of_lt Nat.and_le_left ha
  rw [t a b ha, t m n hm, t (a &&& m) (b &&& n) hc]
  apply Nat.eq_of_testBit_eq
  intro i
  rw [Nat.testBit_and, Nat.testBit_two_pow_mul_add b ha, Nat.testBit_two_pow_mul_add n hm, Nat.testBit_two_pow_mul_add (b &&& n) hc]
  split
  · rw [Nat.testBit_and]
  · rw [Nat.testBit_and]

def b1 (a : Nat) : Nat := (a / 2 &&& 85) + (a &&& 85)
def b2 (a : Nat) : Nat := (a / 4 &&& 51) + (a &&& 51)
def b3 (a : Nat) : Nat := a / 16 + a % 16
theorem b1_top : ∀ a : Nat, a < 256 → ∀ c : Nat, c < 2 → (a / 2 + 128 * c) &&& 85 = a / 2 &&& 85 := by decide +kernel
theorem b2_top : ∀ a : Nat, a < 256 → ∀ c : Nat, c < 4 → (a / 4 + 64 * c) &&& 51 = a / 4 &&& 51 := by decide +kernel
theorem b1_lt : ∀ a : Nat, a < 256 → b1 a < 256 := by decide +kernel
theorem b21 : ∀ a : Nat, a < 256 → b2 (b1 a) < 256 ∧ b2 (b1 a) % 16 ≤ 4 ∧ b2 (b1 a) / 16 ≤ 4 ∧ b3 (b2 (b1 a)) = cnt 8 a := by decide +kernel

theorem s1_bytes : ∀ l : List Nat, (∀ a ∈ l, a < 256) → (ofB l / 2 &&& rep 85 l.length) + (ofB l &&& rep 85 l.length) = ofB (l.map b1) := by
  intro l
  induction l with
  | nil => intro _; rfl
  | cons a l ih =>
    intro h
    have ha := h a (by simp)
    have ih' := ih fun x hx => h x (List.mem_cons_of_mem _ hx)
    rw [ofB, List.length_cons, rep, List.map_cons, ofB, ← ih']
    generalize ofB l = y
    generalize rep 85 l.length = M
    have e : (a + 256 * y) / 2 = (a / 2 + 128 * (y % 2)) + 256 * (y / 2) := by omega
    rw [e, and_block _ _ (by omega) (by omega), and_block _ _ ha (by omega), b1_top a ha _ (by omega), b1]
    omega
theorem s2_bytes : ∀ l : List Nat, (∀ a ∈ l, a < 256) → (ofB l / 4 &&& rep 51 l.length) + (ofB l &&& rep 51 l.length) = ofB (l.map b2) := by
  intro l
  induction l with
  | nil => intro _; rfl
  | cons a l ih =>
    intro h
    have ha := h a (by simp)
    have ih' := ih fun x hx => h x (List.mem_cons_of_mem _ hx)
    rw [ofB, List.length_cons, rep, List.map_cons, ofB, ← ih']
    generalize ofB l = y
    generalize rep 51 l.length = M
    have e : (a + 256 * y) / 4 = (a / 4 + 64 * (y % 4)) + 256 * (y / 4) := by omega
    rw [e, and_block _ _ (by omega) (by omega), and_block _ _ ha (by omega), b2_top a ha _ (by omega), b2]
    omega
theorem s3_bytes : ∀ l : List Nat, (∀ a ∈ l, a % 16 ≤ 4 ∧ a / 16 ≤ 4) → ((ofB l / 16 + ofB l) &&& rep 15 l.length) = ofB (l.map b3) := by
  intro l
  induction l with
  | nil => intro _; rfl
  | cons a l ih =>
    intro h
    obtain ⟨h1, h2⟩ := h a (by simp)
    have hl := fun x hx => h x (List.mem_cons_of_mem _ hx)
    have ih' := ih hl
    have hy : ofB l % 16 ≤ 4 := by
      rcases l with _ | ⟨b, l⟩
      · simp [ofB]
      · have := (hl b (by simp)).1
        rw [ofB]; omega
    rw [ofB, List.length_cons, rep, List.map_cons, ofB, ← ih']
    generalize ofB l = y at hy
    generalize rep 15 l.length = M
    have e : (a + 256 * y) / 16 + (a + 256 * y) = (a / 16 + 16 * (y % 16) + a) + 256 * (y / 16 + y) := by omega
    rw [e, and_block _ _ (by omega) (by omega), show (15 : Nat) = 2 ^ 4 - 1 from rfl, Nat.and_two_pow_sub_one_eq_mod, b3]
    omega

theorem bytes_of (x : Nat) (h : x < 18446744073709551616) : ∃ a0 a1 a2 a3 a4 a5 a6 a7 : Nat, a0 < 256 ∧ a1 < 256 ∧ a2 < 256 ∧ a3 < 256 ∧ a4 < 256 ∧ a5 < 256 ∧ a6 < 256 ∧ a7 < 256 ∧ x = ofB [a0, a1, a2, a3, a4, a5, a6, a7] := by
  refine ⟨x % 256, x / 256 % 256, x / 65536 % 256, x / 16777216 % 256, x / 4294967296 % 256, x / 1099511627776 % 256, x / 281474976710656 % 256, x / 72057594037927936, ?_⟩
  simp only [ofB]
  omega

theorem cnt_bytes : ∀ l : List Nat, (∀ a ∈ l, a < 256) → cnt (8 * l.length) (ofB l) = ((l.map (cnt 8)).sum) := by
  intro l
  induction l with
  | nil => intro _; rfl
  | cons a l ih =>
    intro h
    have ha := h a (by simp)
    rw [List.length_cons, show 8 * (l.length + 1) = 8 + 8 * l.length from by omega, cnt_add, List.map_cons, List.sum_cons, ← ih fun x hx => h x (List.mem_cons_of_mem _ hx)]
    rw [← cnt_mod 8 (ofB (a :: l))]
    congr 2
    · rw [ofB]; omega
    · rw [ofB]; omega

set_option maxHeartbeats 2000000 in
/-- The library's way: sums of fields of two, four, eight bits; then of the bytes. -/
theorem cnt_swar (x : Nat) (h : x < 18446744073709551616) :
    let y1 := (x / 2 &&& 6148914691236517205) + (x &&& 6148914691236517205)
    let y2 := (y1 / 4 &&& 3689348814741910323) + (y1 &&& 3689348814741910323)
    let y3 := (y2 / 16 + y2) &&& 1085102592571150095
    let y4 := y3 + y3 / 256
    let y5 := y4 + y4 / 65536
    let y6 := y5 + y5 / 4294967296
    y1 < 18446744073709551616 ∧ y2 < 18446744073709551616 ∧ y2 / 16 + y2 < 18446744073709551616 ∧ y4 < 18446744073709551616 ∧ y5 < 18446744073709551616 ∧ y6 < 9223372036854775808 ∧ y6 % 128 = cnt 64 x := by
  intro y1 y2 y3 y4 y5 y6
  obtain ⟨a0, a1, a2, a3, a4, a5, a6, a7, h0, h1, h2, h3, h4, h5, h6, h7, hx⟩ := bytes_of x h
  have hl : ∀ a ∈ [a0, a1, a2, a3, a4, a5, a6, a7], a < 256 := by
    intro a ha
    simp at ha
    rcases ha with rfl | rfl | rfl | rfl | rfl | rfl | rfl | rfl <;> assumption
  have e1 : y1 = ofB ([a0, a1, a2, a3, a4, a5, a6, a7].map b1) := by
    rw [← s1_bytes _ hl, ← hx]; rfl
  have e2 : y2 = ofB (([a0, a1, a2, a3, a4, a5, a6, a7].map b1).map b2) := by
    rw [← s2_bytes _ (by intro a ha; obtain ⟨b, hb, rfl⟩ := List.mem_map.1 ha; exact b1_lt b (hl b hb)), ← e1]; rfl
  have e3 : y3 = ofB ((([a0, a1, a2, a3, a4, a5, a6, a7].map b1).map b2).map b3) := by
    rw [← s3_bytes _ (by
      intro a ha
      obtain ⟨b, hb, rfl⟩ := List.mem_map.1 ha
      obtain ⟨c, hc, rfl⟩ := List.mem_map.1 hb
      exact ⟨(b21 c (hl c hc)).2.1, (b21 c (hl c hc)).2.2.1⟩), ← e2]; rfl
  have hc := cnt_bytes _ hl
  rw [← hx] at hc
  simp only [List.map_cons, List.map_nil, List.length_cons, List.length_nil, List.sum_cons, List.sum_nil, Nat.reduceAdd, Nat.reduceMul] at hc e1 e2 e3
  have k0 := b21 a0 h0
  have k1 := b21 a1 h1
  have k2 := b21 a2 h2
  have k3 := b21 a3 h3
  have k4 := b21 a4 h4
  have k5 := b21 a5 h5
  have k6 := b21 a6 h6
  have k7 := b21 a7 h7
  rw [k0.2.2.2, k1.2.2.2, k2.2.2.2, k3.2.2.2, k4.2.2.2, k5.2.2.2, k6.2.2.2, k7.2.2.2] at e3
  have q0 := b1_lt a0 h0
  have q1 := b1_lt a1 h1
  have q2 := b1_lt a2 h2
  have q3 := b1_lt a3 h3
  have q4 := b1_lt a4 h4
  have q5 := b1_lt a5 h5
  have q6 := b1_lt a6 h6
  have q7 := b1_lt a7 h7
  have c0 := cnt_le 8 a0
  have c1 := cnt_le 8 a1
  have c2 := cnt_le 8 a2
  have c3 := cnt_le 8 a3
  have c4 := cnt_le 8 a4
  have c5 := cnt_le 8 a5
  have c6 := cnt_le 8 a6
  have c7 := cnt_le 8 a7
  rw [hc]
  have L1 : y1 < 18446744073709551616 := by
    rw [e1]; simp only [ofB]; clear e1 e2 e3 hc hx hl c0 c1 c2 c3 c4 c5 c6 c7 k0 k1 k2 k3 k4 k5 k6 k7; omega
  have L23 : y2 < 18446744073709551616 ∧ y2 / 16 + y2 < 18446744073709551616 := by
    have m0 := k0.2.2.1
    have m1 := k1.2.2.1
    have m2 := k2.2.2.1
    have m3 := k3.2.2.1
    have m4 := k4.2.2.1
    have m5 := k5.2.2.1
    have m6 := k6.2.2.1
    have m7 := k7.2.2.1
    rw [e2]; simp only [ofB]; clear e1 e2 e3 hc hx hl c0 c1 c2 c3 c4 c5 c6 c7 k0 k1 k2 k3 k4 k5 k6 k7 q0 q1 q2 q3 q4 q5 q6 q7; omega
  obtain ⟨L2, L3⟩ := L23
  have f4 : y4 = y3 + y3 / 256 := rfl
  have f5 : y5 = y4 + y4 / 65536 := rfl
  have f6 : y6 = y5 + y5 / 4294967296 := rfl
  generalize y1 = Y1 at *
  generalize y2 = Y2 at *
  generalize y3 = Y3 at *
  generalize y4 = Y4 at *
  generalize y5 = Y5 at *
  generalize y6 = Y6 at *
  simp only [ofB, Nat.mul_zero, Nat.add_zero] at e1 e2 e3
  generalize cnt 8 a0 = d0 at *
  generalize cnt 8 a1 = d1 at *
  generalize cnt 8 a2 = d2 at *
  generalize cnt 8 a3 = d3 at *
  generalize cnt 8 a4 = d4 at *
  generalize cnt 8 a5 = d5 at *
  generalize cnt 8 a6 = d6 at *
  generalize cnt 8 a7 = d7 at *
  clear k0 k1 k2 k3 k4 k5 k6 k7 q0 q1 q2 q3 q4 q5 q6 q7 hc hx hl
  obtain ⟨H1, hH1⟩ : ∃ H, H = d1 + 256 * (d2 + 256 * (d3 + 256 * (d4 + 256 * (d5 + 256 * (d6 + 256 * d7))))) := ⟨_, rfl⟩
  have r4 : Y3 / 256 = H1 := by
    have : Y3 = d0 + 256 * H1 := by rw [hH1, e3]
    clear e3 hH1 f4 f5 f6 e1 e2; omega
  have g4 : Y4 = (d0 + d1) + 256 * ((d1 + d2) + 256 * ((d2 + d3) + 256 * ((d3 + d4) + 256 * ((d4 + d5) + 256 * ((d5 + d6) + 256 * ((d6 + d7) + 256 * d7)))))) := by
    rw [f4, r4, hH1, e3]; clear r4 f4 f5 f6 hH1 e3 e1 e2; omega
  obtain ⟨H2, hH2⟩ : ∃ H, H = (d2 + d3) + 256 * ((d3 + d4) + 256 * ((d4 + d5) + 256 * ((d5 + d6) + 256 * ((d6 + d7) + 256 * d7)))) := ⟨_, rfl⟩
  have r5 : Y4 / 65536 = H2 := by
    have : Y4 = (d0 + d1) + 256 * ((d1 + d2) + 256 * H2) := by rw [hH2, g4]
    clear hH2 f4 f5 f6 hH1 e3 g4 e1 e2 r4; omega
  have g5 : Y5 = (d0 + d1 + d2 + d3) + 256 * ((d1 + d2 + d3 + d4) + 256 * ((d2 + d3 + d4 + d5) + 256 * ((d3 + d4 + d5 + d6) + 256 * ((d4 + d5 + d6 + d7) + 256 * ((d5 + d6 + d7) + 256 * ((d6 + d7) + 256 * d7)))))) := by
    rw [f5, r5, hH2, g4]; clear r4 r5 f4 f5 f6 hH1 hH2 g4 e3 e1 e2; omega
  obtain ⟨H3, hH3⟩ : ∃ H, H = (d4 + d5 + d6 + d7) + 256 * ((d5 + d6 + d7) + 256 * ((d6 + d7) + 256 * d7)) := ⟨_, rfl⟩
  have r6 : Y5 / 4294967296 = H3 := by
    have : Y5 = (d0 + d1 + d2 + d3) + 256 * ((d1 + d2 + d3 + d4) + 256 * ((d2 + d3 + d4 + d5) + 256 * ((d3 + d4 + d5 + d6) + 256 * H3))) := by rw [hH3, g5]
    clear hH3 hH2 f4 f5 f6 hH1 e3 g4 g5 e1 e2 r4 r5; omega
  have g6 : Y6 = (d0 + d1 + d2 + d3 + d4 + d5 + d6 + d7) + 256 * ((d1 + d2 + d3 + d4 + d5 + d6 + d7) + 256 * ((d2 + d3 + d4 + d5 + d6 + d7) + 256 * ((d3 + d4 + d5 + d6 + d7) + 256 * ((d4 + d5 + d6 + d7) + 256 * ((d5 + d6 + d7) + 256 * ((d6 + d7) + 256 * d7)))))) := by
    rw [f6, r6, hH3, g5]; clear r4 r5 r6 f4 f5 f6 hH1 hH2 hH3 g4 g5 e3 e1 e2; omega
  clear r4 r5 r6 f4 f5 f6 hH1 hH2 hH3 e3
  refine ⟨L1, L2, L3, ?_, ?_, ?_, ?_⟩
  · clear g5 g6; omega
  · clear g4 g6; omega
  · clear g4 g5; omega
  · clear g4 g5; omega
end Xs
end Go.Proofs.YtjnlgaeedcklaaaGreatDoor

namespace Go.Proofs.YtjnlgaeedcklaaaGreatDoor.Xs
abbrev BytesL := List UInt8

theorem fields_ok_next {K : Nat → Fs.Kind} : ∀ (ws : List (Nat × BytesL)) (i : Nat) {l : List (Nat × Bool)} (a : Nat) (w : BytesL), fields K i ws = .ok l → (Fs.parse (K (i + ws.length)) w).2.2.2 = 0 →
    fields K i (ws ++ [(a, w)]) = .ok (l ++ [((Fs.parse (K (i + ws.length)) w).1, (Fs.parse (K (i + ws.length)) w).2.1)]) := by
  intro ws
  induction ws with
  | nil =>
    intro i l a w h h0
    simp only [fields, Got.ok.injEq] at h
    subst h
    simp only [List.nil_append, List.length_nil, Nat.add_zero] at h0 ⊢
    rw [fields, if_pos h0, fields]
  | cons p ws ih =>
    intro i l a w h h0
    obtain ⟨b, v⟩ := p
    rw [fields] at h
    split at h
    · rename_i hp
      split at h
      · rename_i l' hl
        injection h with h
        subst h
        rw [List.length_cons, show i + (ws.length + 1) = i + 1 + ws.length by omega] at h0 ⊢
        rw [List.cons_append, fields, if_pos hp, ih (i + 1) a w hl h0]
        rfl
      · cases h
    · cases h

theorem fields_bad_next {K : Nat → Fs.Kind} : ∀ (ws : List (Nat × BytesL)) (i : Nat) {l : List (Nat × Bool)} (a : Nat) (w : BytesL) (r : List (Nat × BytesL)), fields K i ws = .ok l → (Fs.parse (K (i + ws.length)) w).2.2.2 ≠ 0 →
    fields K i (ws ++ (a, w) :: r) = .bad (a + (Fs.parse (K (i + ws.length)) w).2.2.1) (Fs.parse (K (i + ws.length)) w).2.2.2 := by
  intro ws
  induction ws with
  | nil =>
    intro i l a w r h h0
    simp only [List.nil_append, List.length_nil, Nat.add_zero] at h0 ⊢
    rw [fields, if_neg h0]
  | cons p ws ih =>
    intro i l a w r h h0
    obtain ⟨b, v⟩ := p
    rw [fields] at h
    split at h
    · rename_i hp
      split at h
      · rename_i l' hl
        rw [List.length_cons, show i + (ws.length + 1) = i + 1 + ws.length by omega] at h0 ⊢
        rw [List.cons_append, fields, if_pos hp, ih (i + 1) a w r hl h0]
      · cases h
    · cases h

/-- The expression in which the field k is set. -/
def putX (x : Ex) (k s : Nat) (star : Bool) : Ex :=
  match k with
  | 0 => { x with second := s }
  | 1 => { x with minute := s }
  | 2 => { x with hour := s }
  | 3 => { x with day := s, anyDay := star }
  | 4 => { x with month := s }
  | 5 => { x with week := s, anyWeek := star }
  | _ => x

/-- The expression behind some fields, from the field f on. -/
def partX (x : Ex) : Nat → List (Nat × Bool) → Ex
  | _, [] => x
  | f, (s, b) :: l => partX (putX x f s b) (f + 1) l

theorem partX_next (x : Ex) (l : List (Nat × Bool)) (s : Nat) (b : Bool) : ∀ f, partX x f (l ++ [(s, b)]) = putX (partX x f l) (f + l.length) s b := by
  induction l generalizing x with
  | nil => intro f; rfl
  | cons p l ih =>
    intro f
    obtain ⟨t, c⟩ := p
    rw [List.cons_append, partX, partX, ih, List.length_cons, show f + 1 + l.length = f + (l.length + 1) by omega]

/-- The expression with which read begins. -/
def Ex.one : Ex := ⟨1, 0, 0, 0, 0, 0, false, false⟩
theorem part_made {f : Nat} {l : List (Nat × Bool)} (h : l.length + f = 6) (hf : f ≤ 1) :
    partX Ex.one f l = made (if l.length = 5 then (1, false) :: l else l) := by
  rcases (by omega : f = 0 ∨ f = 1) with rfl | rfl
  · match l, h with
    | [(a, _), (b, _), (c, _), (d, _), (e, _), (g, _)], _ => rfl
  · match l, h with
    | [(a, _), (b, _), (c, _), (d, _), (e, _)], _ => rfl

theorem fields_length {K : Nat → Fs.Kind} : ∀ (ws : List (Nat × BytesL)) (i : Nat) {l : List (Nat × Bool)}, fields K i ws = .ok l → l.length = ws.length := by
  intro ws
  induction ws with
  | nil => intro i l h; simp only [fields, Got.ok.injEq] at h; subst h; rfl
  | cons p ws ih =>
    intro i l h
    obtain ⟨b, v⟩ := p
    rw [fields] at h
    split at h
    · split at h
      · rename_i l' hl
        injection h with h
        subst h
        rw [List.length_cons, List.length_cons, ih _ hl]
      · cases h
    · cases h

theorem read_ok {K : Nat → Fs.Kind} {ws : List (Nat × BytesL)} {len f : Nat} {l : List (Nat × Bool)} (h : ws.length + f = 6) (hf : f ≤ 1) (hl : fields K f ws = .ok l) : read K ws len = (partX Ex.one f l, 0, 0) := by
  have hlen := fields_length _ _ hl
  rw [read, if_neg (by omega), if_neg (by omega), show 6 - ws.length = f by omega, hl, part_made (by omega) hf, hlen]

theorem read_bad {K : Nat → Fs.Kind} {ws : List (Nat × BytesL)} {len f p : Nat} {e : Int} (h : ws.length + f = 6) (hf : f ≤ 1) (hl : fields K f ws = .bad p e) : read K ws len = (Ex.zero, p, e) := by
  rw [read, if_neg (by omega), if_neg (by omega), show 6 - ws.length = f by omega, hl]
end Go.Proofs.YtjnlgaeedcklaaaGreatDoor.Xs
