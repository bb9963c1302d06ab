/-
  Places, ranges and steps of fields; two expressions that match together. No program in sight.
-/
import Derived.Test.YtjnlgaeedcklaaaGreatDoorXPlain4
set_option linter.unusedVariables false
set_option linter.unusedSimpArgs false
namespace Go.Proofs.YtjnlgaeedcklaaaGreatDoor
namespace Fs

theorem parse_bad {k : Kind} {l : Bytes} (hk : checkB k = true) {a : Nat} (h : reads k l 0 = .bad a) : parse k l = (0, false, a, 10) := by
  rw [parse_reads k l hk, h]
theorem parse_ok {k : Kind} {l : Bytes} (hk : checkB k = true) {xs : List Item} {b : Nat} (h : reads k l 0 = .ok xs b) : (parse k l).2.2.2 ≠ 10 := by
  rw [parse_reads k l hk, h]
  rcases hs : setOf k xs 0 with ⟨s, _ | a⟩ <;> simp [hs]
theorem bad_of {k : Kind} {l : Bytes} (hk : checkB k = true) (h : (parse k l).2.2.2 = 10) : reads k l 0 = .bad (parse k l).2.2.1 ∧ parse k l = (0, false, (parse k l).2.2.1, 10) := by
  cases hr : reads k l 0 with
  | bad a => rw [parse_bad hk hr]; exact ⟨rfl, rfl⟩
  | ok xs b => exact absurd h (parse_ok hk hr)

/-- **Places.** -/
theorem places_plain {k : Kind} (hk : checkB k = true) (s : Bytes) (b : Nat) (hp : (parse k s).2.2.2 = 10) (hb : (parse k s).2.2.1 = b) (hl : ∀ c, s[b]? = some c → letterB c = false) :
    b ≤ s.length ∧ (b < s.length → ∀ more, parse k (s.take (b + 1) ++ more) = (0, false, b, 10)) ∧
      ((parse k (s.take b)).2.2.2 = 10 → (parse k (s.take b)).2.2.1 = b ∧ (parse k (s.take b ++ [49])).2.2.2 ≠ 10) := by
  obtain ⟨h1, _⟩ := bad_of hk hp
  rw [hb] at h1
  obtain ⟨p1, p2, p3, p4⟩ := places k s b hl h1
  refine ⟨p1, fun h more => parse_bad hk (p2 h more), fun h => ?_⟩
  obtain ⟨h2, _⟩ := bad_of hk h
  refine ⟨p3 _ h2, ?_⟩
  rcases p4 with ⟨xs, h3⟩ | ⟨xs, h3⟩
  · rw [h2] at h3; cases h3
  · exact parse_ok hk h3

/-- One item that is the whole text, and no star. -/
theorem parse_item {k : Kind} (hk : checkB k = true) {t : Bytes} {x : Item} (h : itemAt k t 0 = .ok x t.length) (hs : (t == [42]) = false) :
    parse k t = match wrongAt k x with
      | some a => (0, false, a, 2)
      | none => (itemSet k x 0, false, 0, 0) := by
  rw [parse_reads k t hk, reads_single h]
  simp only [setOf]
  cases wrongAt k x <;> simp [hs]

theorem itemSet_bit {k : Kind} {x : Item} (h : 0 < itemStep x) (i : Nat) : (itemSet k x 0).testBit i = true ↔ ∃ j, itemLo k x + j * itemStep x ≤ itemHi k x ∧ i = wk k.week (itemLo k x + j * itemStep x) := by
  unfold itemSet
  rw [setFrom_bit _ _ _ h _ _ _ _ (by omega)]
  simp

/-- The greatest number that may be written. -/
def mostOf (week : Bool) (hi : Nat) : Nat := if week then 7 else hi
theorem inB_most {k : Kind} {lo hi : Nat} (hlo : k.lo = lo) (hhi : k.hi = hi) (hle : lo ≤ hi) (hw : k.week = true → lo = 0 ∧ hi = 6) (n : Nat) : inB k n = true ↔ lo ≤ n ∧ n ≤ mostOf k.week hi := by
  rw [inB_nat hlo hhi, mostOf]
  cases hk : k.week with
  | false => simp
  | true => obtain ⟨rfl, rfl⟩ := hw hk; simp; omega

theorem dig_ne_star {n : Nat} (hn : n < 100) (t : Bytes) : (dig n ++ t == [42]) = false := by
  rw [beq_eq_false_iff_ne]
  intro he
  have := dig_noStar hn t
  rw [he] at this
  simp at this

/-- The text of a range with a step. -/
def rangeText (a b c : Nat) : Bytes := dig a ++ (45 :: (dig b ++ (47 :: dig c)))

/-- **Ranges.** -/
theorem ranges_bad {k : Kind} (hk : checkB k = true) {lo hi : Nat} (hlo : k.lo = lo) (hhi : k.hi = hi) (a b c : Nat) (ha : a < 100) (hb : b < 100) (hc : c < 100)
    (h : a < lo ∨ mostOf k.week hi < b ∨ b < a ∨ c = 0) : ∃ p, p ≤ 6 ∧ parse k (rangeText a b c) = (0, false, p, 2) := by
  obtain ⟨lo', hi', hlo', hhi', hle, h62, hw⟩ := check_nat hk
  obtain rfl : lo' = lo := by omega
  obtain rfl : hi' = hi := by omega
  have e := itemAt_two (k := k) (l := rangeText a b c) (a := 0) (n := a) (m := b) (some c) ha hb (by intro m h; injection h with h; omega) [] (by simp [rangeText, stepText]) endB_nil
  have el : 0 + (dig a).length + 1 + (dig b).length + (stepText (some c)).length = (rangeText a b c).length := by
    simp only [rangeText, stepText, List.length_append, List.length_cons]; omega
  rw [el] at e
  have la := dig_len a ha
  have lb := dig_len b hb
  have lc := dig_len c hc
  rw [parse_item hk e (dig_ne_star ha _)]
  have ka := inB_most hlo hhi hle hw a
  have kb := inB_most hlo hhi hle hw b
  cases ha' : inB k a with
  | false => exact ⟨0, by omega, by simp [wrongAt, ha']⟩
  | true =>
    rw [ha'] at ka
    have ka := ka.1 rfl
    cases hb' : inB k b with
    | false => exact ⟨0 + (dig a).length + 1, by omega, by simp [wrongAt, ha', hb']⟩
    | true =>
      rw [hb'] at kb
      have kb := kb.1 rfl
      by_cases hba : b < a
      · exact ⟨0, by omega, by simp [wrongAt, ha', hb', hba]⟩
      · obtain rfl : c = 0 := by omega
        exact ⟨0 + (dig a).length + 1 + (dig b).length + 1, by omega, by simp [wrongAt, ha', hb', hba]⟩

theorem ranges_good {k : Kind} (hk : checkB k = true) {lo hi : Nat} (hlo : k.lo = lo) (hhi : k.hi = hi) (a b c : Nat) (ha : a < 100) (hb : b < 100) (hc : c < 100)
    (h1 : lo ≤ a) (h2 : b ≤ mostOf k.week hi) (h3 : a ≤ b) (h4 : c ≠ 0) : ∃ S, parse k (rangeText a b c) = (S, false, 0, 0) ∧
      ∀ i, S.testBit i = true ↔ ∃ n, a ≤ n ∧ n ≤ b ∧ (n - a) % c = 0 ∧ i = wk k.week n := by
  obtain ⟨lo', hi', hlo', hhi', hle, h62, hw⟩ := check_nat hk
  obtain rfl : lo' = lo := by omega
  obtain rfl : hi' = hi := by omega
  have e := itemAt_two (k := k) (l := rangeText a b c) (a := 0) (n := a) (m := b) (some c) ha hb (by intro m h; injection h with h; omega) [] (by simp [rangeText, stepText]) endB_nil
  have el : 0 + (dig a).length + 1 + (dig b).length + (stepText (some c)).length = (rangeText a b c).length := by
    simp only [rangeText, stepText, List.length_append, List.length_cons]; omega
  rw [el] at e
  have ka : inB k a = true := (inB_most hlo hhi hle hw a).2 ⟨h1, by omega⟩
  have kb : inB k b = true := (inB_most hlo hhi hle hw b).2 ⟨by omega, h2⟩
  have hba : ¬ b < a := by omega
  rw [parse_item hk e (dig_ne_star ha _)]
  have hwr : wrongAt k ⟨false, 0, some (a, 0), some (b, 0 + (dig a).length + 1), (some c).map fun q => (q, 0 + (dig a).length + 1 + (dig b).length + 1)⟩ = none := by
    simp [wrongAt, ka, kb, hba, h4]
  rw [hwr]
  refine ⟨_, rfl, fun i => ?_⟩
  rw [itemSet_bit (by simp [itemStep]; omega)]
  simp only [itemLo, itemHi, itemStep, Option.map_some, Option.getD_some, Bool.false_eq_true, if_false]
  constructor
  · rintro ⟨j, h5, rfl⟩
    exact ⟨a + j * c, by omega, h5, by rw [Nat.add_sub_cancel_left]; exact Nat.mul_mod_left _ _, rfl⟩
  · rintro ⟨n, h5, h6, h7, rfl⟩
    have h8 := Nat.div_add_mod (n - a) c
    rw [h7, Nat.add_zero, Nat.mul_comm] at h8
    exact ⟨(n - a) / c, by rw [h8]; omega, by rw [h8]; congr 1; omega⟩

theorem set_lt {k : Kind} (hk : checkB k = true) (l : Bytes) {S : Nat} {st : Bool} {a : Nat} {e : Int} (h : parse k l = (S, st, a, e)) : S < 18446744073709551616 := by
  have := parse_lt hk l
  rw [h] at this; exact this

/-- What the loop of FieldRanges has come to ahead of the number n. -/
def rangeSet (week : Bool) (a b c lo : Nat) : Nat → Nat
  | 0 => 0
  | f + 1 => if a ≤ lo + f ∧ lo + f ≤ b ∧ (lo + f - a) % c = 0 then rangeSet week a b c lo f ||| 2 ^ wk week (lo + f) else rangeSet week a b c lo f
theorem rangeSet_bit (week : Bool) (a b c lo : Nat) (i : Nat) : ∀ f, (rangeSet week a b c lo f).testBit i = true ↔ ∃ n, lo ≤ n ∧ n < lo + f ∧ a ≤ n ∧ n ≤ b ∧ (n - a) % c = 0 ∧ i = wk week n := by
  intro f
  induction f with
  | zero => simp only [rangeSet, Nat.zero_testBit, Bool.false_eq_true, false_iff]; rintro ⟨n, h⟩; omega
  | succ f ih =>
    rw [rangeSet]
    split
    · rename_i h
      rw [Nat.testBit_or, Bool.or_eq_true, ih, Nat.testBit_two_pow, decide_eq_true_eq]
      constructor
      · rintro (⟨n, h1, h2, h3⟩ | h1)
        · exact ⟨n, h1, by omega, h3⟩
        · exact ⟨lo + f, by omega, by omega, h.1, h.2.1, h.2.2, h1.symm⟩
      · rintro ⟨n, h1, h2, h3, h4, h5, h6⟩
        by_cases hn : n = lo + f
        · subst hn; exact .inr h6.symm
        · exact .inl ⟨n, h1, by omega, h3, h4, h5, h6⟩
    · rename_i h
      rw [ih]
      constructor
      · rintro ⟨n, h1, h2, h3⟩
        exact ⟨n, h1, by omega, h3⟩
      · rintro ⟨n, h1, h2, h3, h4, h5, h6⟩
        by_cases hn : n = lo + f
        · subst hn; exact absurd ⟨h3, h4, h5⟩ h
        · exact ⟨n, h1, by omega, h3, h4, h5, h6⟩
theorem rangeSet_lt (week : Bool) (a b c lo f : Nat) (hb : b ≤ 62) : rangeSet week a b c lo f < 18446744073709551616 := by
  rw [show (18446744073709551616 : Nat) = 2 ^ 64 from rfl]
  apply Nat.lt_pow_two_of_testBit
  intro i h
  cases hb' : (rangeSet week a b c lo f).testBit i with
  | false => rfl
  | true =>
    obtain ⟨n, h1, h2, h3, h4, h5, rfl⟩ := (rangeSet_bit ..).1 hb'
    have : wk week n ≤ n := by unfold wk; split; exact Nat.mod_le _ _; exact Nat.le_refl _
    omega

/-- **Ranges**: the set is the loop's. -/
theorem ranges_loop {k : Kind} (hk : checkB k = true) {lo hi : Nat} (hlo : k.lo = lo) (hhi : k.hi = hi) (a b c : Nat) (ha : a < 100) (hb : b < 100) (hc : c < 100)
    (h1 : lo ≤ a) (h2 : b ≤ mostOf k.week hi) (h3 : a ≤ b) (h4 : c ≠ 0) : parse k (rangeText a b c) = (rangeSet k.week a b c lo (mostOf k.week hi + 1 - lo), false, 0, 0) := by
  obtain ⟨S, hS, hb⟩ := ranges_good hk hlo hhi a b c ha hb hc h1 h2 h3 h4
  rw [hS]
  congr 1
  refine bits_ext fun i => ?_
  rw [hb, rangeSet_bit]
  constructor
  · rintro ⟨n, q1, q2, q3, q4⟩; exact ⟨n, by omega, by omega, q1, q2, q3, q4⟩
  · rintro ⟨n, q1, q2, q3, q4, q5, q6⟩; exact ⟨n, q3, q4, q5, q6⟩

/-- **Steps.** -/
theorem steps_plain {k : Kind} (hk : checkB k = true) {lo hi : Nat} (hlo : k.lo = lo) (hhi : k.hi = hi) (n c : Nat) (hn1 : lo ≤ n) (hn2 : n ≤ hi) (hc : c < 100) (hc0 : c ≠ 0) :
    ∃ X Y : Nat, parse k (42 :: 47 :: dig c) = (X, false, 0, 0) ∧ parse k (dig n ++ 47 :: dig c) = (Y, false, 0, 0) ∧ parse k (dig n) = (2 ^ n, false, 0, 0) ∧
      (c = 1 → X = full k) ∧ X &&& full k = X ∧ Y &&& full k = Y ∧ (∀ v, lo ≤ v → v ≤ hi → (X.testBit v = true ↔ (v - lo) % c = 0)) ∧ (∀ v, lo ≤ v → v ≤ hi → (Y.testBit v = true ↔ n ≤ v ∧ (v - n) % c = 0)) := by
  obtain ⟨lo', hi', hlo', hhi', hle, h62, hw⟩ := check_nat hk
  obtain rfl : lo' = lo := by omega
  obtain rfl : hi' = hi := by omega
  have hn : n < 100 := by omega
  have inn : inB k n = true := (inB_nat hlo hhi n).2 (.inl ⟨hn1, hn2⟩)
  have wkid : ∀ v, v ≤ hi' → wk k.week v = v := by
    intro v hv
    unfold wk
    split
    · rename_i h; have := hw h; exact Nat.mod_eq_of_lt (by omega)
    · rfl
  have e1 := itemAt_star (k := k) (l := 42 :: 47 :: dig c) (a := 0) (some c) (by intro m h; injection h with h; omega) [] (by simp [stepText]) endB_nil
  rw [show 0 + 1 + (stepText (some c)).length = (42 :: 47 :: dig c).length from by simp [stepText]; omega] at e1
  have e2 := itemAt_one (k := k) (l := dig n ++ 47 :: dig c) (a := 0) (n := n) (some c) hn (by intro m h; injection h with h; omega) [] (by simp [stepText]) endB_nil
  rw [show 0 + (dig n).length + (stepText (some c)).length = (dig n ++ 47 :: dig c).length from by simp [stepText]] at e2
  have e3 := itemAt_one (k := k) (l := dig n) (a := 0) (n := n) none hn (by intro m h; cases h) [] (by simp [stepText]) endB_nil
  rw [show 0 + (dig n).length + (stepText none).length = (dig n).length from by simp [stepText]] at e3
  have w1 : wrongAt k ⟨true, 0, none, none, (some c).map fun m => (m, 0 + 1 + 1)⟩ = none := by simp [wrongAt, hc0]
  have w2 : wrongAt k ⟨false, 0, some (n, 0), none, (some c).map fun m => (m, 0 + (dig n).length + 1)⟩ = none := by simp [wrongAt, inn, hc0]
  have w3 : wrongAt k ⟨false, 0, some (n, 0), none, (none : Option Nat).map fun m => (m, 0 + (dig n).length + 1)⟩ = none := by simp [wrongAt, inn]
  have p1 := parse_item hk e1 (by rw [beq_eq_false_iff_ne]; simp)
  have p2 := parse_item hk e2 (dig_ne_star hn _)
  have p3 := parse_item hk e3 (by have := dig_ne_star hn []; rwa [List.append_nil] at this)
  rw [w1] at p1
  rw [w2] at p2
  rw [w3] at p3
  have b1 := fun i => itemSet_bit (k := k) (x := ⟨true, 0, none, none, (some c).map fun m => (m, 0 + 1 + 1)⟩) (by simp [itemStep]; omega) i
  have b2 := fun i => itemSet_bit (k := k) (x := ⟨false, 0, some (n, 0), none, (some c).map fun m => (m, 0 + (dig n).length + 1)⟩) (by simp [itemStep]; omega) i
  have b3 := fun i => itemSet_bit (k := k) (x := ⟨false, 0, some (n, 0), none, (none : Option Nat).map fun m => (m, 0 + (dig n).length + 1)⟩) (by simp [itemStep]) i
  simp only [itemLo, itemHi, itemStep, Option.map_some, Option.map_none, Option.getD_some, Option.getD_none, Bool.false_eq_true, if_false, if_true, Option.isSome_some, Option.isSome_none, hlo, hhi, Int.toNat_natCast, Nat.max_eq_right hn2] at b1 b2 b3
  have c1 : ∀ i, (itemSet k ⟨true, 0, none, none, (some c).map fun m => (m, 0 + 1 + 1)⟩ 0).testBit i = true ↔ (lo' ≤ i ∧ i ≤ hi') ∧ (i - lo') % c = 0 := by
    intro i
    refine (b1 i).trans ⟨?_, ?_⟩
    · rintro ⟨j, h1, h2⟩
      rw [wkid _ h1] at h2
      subst h2
      exact ⟨⟨by omega, h1⟩, by rw [Nat.add_sub_cancel_left]; exact Nat.mul_mod_left _ _⟩
    · rintro ⟨⟨h1, h2⟩, h3⟩
      have h8 := Nat.div_add_mod (i - lo') c
      rw [h3, Nat.add_zero, Nat.mul_comm] at h8
      have e : lo' + (i - lo') / c * c = i := by omega
      exact ⟨(i - lo') / c, by rw [e]; exact h2, by rw [e, wkid _ h2]⟩
  have c2 : ∀ i, (itemSet k ⟨false, 0, some (n, 0), none, (some c).map fun m => (m, 0 + (dig n).length + 1)⟩ 0).testBit i = true ↔ (n ≤ i ∧ i ≤ hi') ∧ (i - n) % c = 0 := by
    intro i
    refine (b2 i).trans ⟨?_, ?_⟩
    · rintro ⟨j, h1, h2⟩
      rw [wkid _ h1] at h2
      subst h2
      exact ⟨⟨by omega, h1⟩, by rw [Nat.add_sub_cancel_left]; exact Nat.mul_mod_left _ _⟩
    · rintro ⟨⟨h1, h2⟩, h3⟩
      have h8 := Nat.div_add_mod (i - n) c
      rw [h3, Nat.add_zero, Nat.mul_comm] at h8
      have e : n + (i - n) / c * c = i := by omega
      exact ⟨(i - n) / c, by rw [e]; exact h2, by rw [e, wkid _ h2]⟩
  refine ⟨_, _, p1, p2, ?_, fun h => ?_, ?_, ?_, fun v h1 h2 => ?_, fun v h1 h2 => ?_⟩
  · refine p3.trans ?_
    refine congrArg (fun z => (z, false, 0, (0 : Int))) ?_
    refine bits_ext fun i => ?_
    refine (b3 i).trans ?_
    rw [Nat.testBit_two_pow, decide_eq_true_eq]
    constructor
    · rintro ⟨j, h1, rfl⟩
      rw [wkid _ (by omega)]; omega
    · rintro rfl
      exact ⟨0, by omega, by rw [Nat.zero_mul, Nat.add_zero, wkid _ hn2]⟩
  · subst h
    refine bits_ext fun i => ?_
    rw [c1, full_bit hlo hhi hle]
    simp [Nat.mod_one]
  · exact subset_of fun i h => (full_bit hlo hhi hle i).2 ((c1 i).1 h).1
  · exact subset_of fun i h => (full_bit hlo hhi hle i).2 (by have := ((c2 i).1 h).1; omega)
  · rw [c1]; exact ⟨fun h => h.2, fun h => ⟨⟨h1, h2⟩, h⟩⟩
  · rw [c2]; exact ⟨fun h => ⟨h.1.1, h.2⟩, fun h => ⟨⟨h.1, h2⟩, h.2⟩⟩
end Fs
end Go.Proofs.YtjnlgaeedcklaaaGreatDoor

namespace Go.Proofs.YtjnlgaeedcklaaaGreatDoor
namespace Xs

/-- Do the days match always? -/
def freeB (K : Nat → Fs.Kind) (x : Ex) : Bool := (x.anyDay && x.anyWeek) || (!x.anyDay && decide (x.day = Fs.full (K 3))) || (!x.anyWeek && decide (x.week = Fs.full (K 5)))

/-- The days of what Both returns; none: the error. -/
def daysB (K : Nat → Fs.Kind) (a b : Ex) : Option (Nat × Nat × Bool × Bool) :=
  if freeB K a then some (b.day, b.week, b.anyDay, b.anyWeek)
  else if freeB K b then some (a.day, a.week, a.anyDay, a.anyWeek)
  else if a.anyDay && b.anyDay then some (b.day, a.week &&& b.week, b.anyDay, b.anyWeek)
  else if a.anyWeek && b.anyWeek then some (a.day &&& b.day, b.week, b.anyDay, b.anyWeek)
  else if a.anyDay != b.anyDay || a.anyWeek != b.anyWeek || decide (a.day ≠ b.day) || decide (a.week ≠ b.week) then none
  else some (b.day, b.week, b.anyDay, b.anyWeek)

def joinE (a b : Ex) (d : Nat × Nat × Bool × Bool) : Ex := ⟨a.second &&& b.second, a.minute &&& b.minute, a.hour &&& b.hour, d.1, a.month &&& b.month, d.2.1, d.2.2.1, d.2.2.2⟩

/-- Both, of two valid expressions. -/
def bothV (K : Nat → Fs.Kind) (a b : Ex) : Ex × Bool × Int :=
  match daysB K a b with
  | none => (Ex.zero, false, 2)
  | some d => if (joinE a b d).sets.all (fun s => decide (s ≠ 0)) then (joinE a b d, true, 0) else (Ex.zero, false, 0)
def bothX (K : Nat → Fs.Kind) (a b : Ex) : Ex × Bool × Int := if checkB K a && checkB K b then bothV K a b else (Ex.zero, false, 16)

/-- Do the days match? -/
def dayM (x : Ex) (d w : Nat) : Bool :=
  if x.anyDay && x.anyWeek then true else if x.anyDay then x.week.testBit w else if x.anyWeek then x.day.testBit d else x.day.testBit d || x.week.testBit w
/-- Does the expression match? -/
def mat (x : Ex) (s m h d n w : Nat) : Bool := dayM x d w && x.second.testBit s && x.minute.testBit m && x.hour.testBit h && x.month.testBit n


section
variable {K : Nat → Fs.Kind} {a b : Ex} {d w : Nat}

theorem free_match (hF : FullDays K) (hf : freeB K a = true) (h1 : 1 ≤ d) (h2 : d ≤ 31) (h3 : w ≤ 6) : dayM a d w = true := by
  have e1 := hF.day d h1 h2
  have e2 := hF.week w h3
  unfold freeB at hf
  unfold dayM
  cases hd : a.anyDay <;> cases hw : a.anyWeek <;> rw [hd, hw] at hf <;> simp at hf ⊢
  · rcases hf with h | h
    · simp [h, e1]
    · simp [h, e2]
  · rw [hf, e1]
  · rw [hf, e2]

/-- The days of the result match where both do. -/
theorem days_match (hF : FullDays K) (ha : checkB K a = true) (hb : checkB K b = true) {q : Nat × Nat × Bool × Bool} (hq : daysB K a b = some q) (h1 : 1 ≤ d) (h2 : d ≤ 31) (h3 : w ≤ 6) :
    dayM (joinE a b q) d w = (dayM a d w && dayM b d w) := by
  obtain ⟨_, ad, aw⟩ := check_all ha
  obtain ⟨_, bd, bw⟩ := check_all hb
  unfold daysB at hq
  split at hq
  · rename_i hf
    injection hq with hq; subst hq
    rw [free_match hF hf h1 h2 h3, Bool.true_and]; rfl
  · rename_i hfa
    split at hq
    · rename_i hf
      injection hq with hq; subst hq
      rw [free_match hF hf h1 h2 h3, Bool.and_true]; rfl
    · rename_i hfb
      unfold freeB at hfa hfb
      split at hq
      · rename_i h
        rw [Bool.and_eq_true] at h
        obtain ⟨g1, g2⟩ := h
        injection hq with hq; subst hq
        unfold dayM joinE
        cases hwa : a.anyWeek <;> cases hwb : b.anyWeek <;> simp [g1, g2, hwa, hwb] at hfa hfb ⊢
      · rename_i h
        split at hq
        · rename_i h'
          rw [Bool.and_eq_true] at h'
          obtain ⟨g1, g2⟩ := h'
          injection hq with hq; subst hq
          unfold dayM joinE
          cases hwa : a.anyDay <;> cases hwb : b.anyDay <;> simp [g1, g2, hwa, hwb] at hfa hfb h ⊢
        · rename_i h'
          split at hq
          · cases hq
          · rename_i h5
            injection hq with hq; subst hq
            simp only [Bool.or_eq_true, bne_iff_ne, ne_eq, decide_eq_true_eq, not_or, Classical.not_not] at h5
            obtain ⟨⟨⟨g1, g2⟩, g3⟩, g4⟩ := h5
            unfold dayM joinE
            simp only [g1, g2, g3, g4]
            simp

/-- What Both returns matches where both match; and if there is none, they never match together. -/
theorem both_match (hF : FullDays K) (ha : checkB K a = true) (hb : checkB K b = true) (s m h n : Nat) (h1 : 1 ≤ d) (h2 : d ≤ 31) (h3 : w ≤ 6) (he : (bothV K a b).2.2 = 0) :
    ((bothV K a b).2.1 = true → mat (bothV K a b).1 s m h d n w = (mat a s m h d n w && mat b s m h d n w)) ∧ ((bothV K a b).2.1 = false → (mat a s m h d n w && mat b s m h d n w) = false) := by
  unfold bothV at he ⊢
  cases hq : daysB K a b with
  | none => rw [hq] at he; cases he
  | some q =>
    simp only
    have hdm := days_match hF ha hb hq h1 h2 h3
    have hm : mat (joinE a b q) s m h d n w = (mat a s m h d n w && mat b s m h d n w) := by
      unfold mat
      rw [hdm]
      simp only [joinE, Nat.testBit_and]
      cases dayM a d w <;> cases dayM b d w <;> cases a.second.testBit s <;> cases b.second.testBit s <;> cases a.minute.testBit m <;> cases b.minute.testBit m <;> simp <;>
        cases a.hour.testBit h <;> cases b.hour.testBit h <;> cases a.month.testBit n <;> cases b.month.testBit n <;> rfl
    split
    · exact ⟨fun _ => hm, fun h => by cases h⟩
    · rename_i hz
      refine ⟨fun h => (by cases h), fun _ => ?_⟩
      rw [← hm]
      obtain ⟨_, ad, aw⟩ := check_all ha
      obtain ⟨a0, _⟩ := check_all ha
      obtain ⟨b0, _⟩ := check_all hb
      by_cases g0 : a.second &&& b.second = 0
      · unfold mat; simp [joinE, g0]
      by_cases g1 : a.minute &&& b.minute = 0
      · unfold mat; simp [joinE, g1]
      by_cases g2 : a.hour &&& b.hour = 0
      · unfold mat; simp [joinE, g2]
      by_cases g4 : a.month &&& b.month = 0
      · unfold mat; simp [joinE, g4]
      have hday : dayM (joinE a b q) d w = false := by
        have h35 : q.1 = 0 ∨ q.2.1 = 0 := by
          by_cases e1 : q.1 = 0
          · exact .inl e1
          · by_cases e2 : q.2.1 = 0
            · exact .inr e2
            · exact absurd (by simp [joinE, Ex.sets, g0, g1, g2, g4, e1, e2]) hz
        have na := a0 3 a.day rfl
        have nb := b0 3 b.day rfl
        have ma := a0 5 a.week rfl
        have mb := b0 5 b.week rfl
        obtain ⟨_, bd, bw⟩ := check_all hb
        unfold daysB at hq
        split at hq
        · injection hq with hq; subst hq; rcases h35 with h | h
          · exact absurd h nb.1
          · exact absurd h mb.1
        · rename_i hfa
          split at hq
          · injection hq with hq; subst hq; rcases h35 with h | h
            · exact absurd h na.1
            · exact absurd h ma.1
          · rename_i hfb
            split at hq
            · rename_i hd
              rw [Bool.and_eq_true] at hd
              injection hq with hq; subst hq
              rcases h35 with h | h
              · exact absurd h nb.1
              · simp only at h
                unfold freeB at hfb
                unfold dayM joinE
                have hz' : ((a.week &&& b.week).testBit w) = false := by rw [h]; simp
                rw [Nat.testBit_and] at hz'
                cases hwb : b.anyWeek <;> simp [hd.2, hwb] at hfb ⊢
                simpa using hz'
            · rename_i hd
              split at hq
              · rename_i hd'
                rw [Bool.and_eq_true] at hd'
                injection hq with hq; subst hq
                rcases h35 with h | h
                · simp only at h
                  unfold freeB at hfb
                  unfold dayM joinE
                  have hz' : ((a.day &&& b.day).testBit d) = false := by rw [h]; simp
                  rw [Nat.testBit_and] at hz'
                  cases hwb : b.anyDay <;> simp [hd'.2, hwb] at hfb ⊢
                  simpa using hz'
                · exact absurd h mb.1
              · split at hq
                · cases hq
                · injection hq with hq; subst hq; rcases h35 with h | h
                  · exact absurd h nb.1
                  · exact absurd h mb.1
      unfold mat; rw [hday]; rfl

/-- What Both returns is valid. -/
theorem both_valid (ha : checkB K a = true) (hb : checkB K b = true) (hi : (bothV K a b).2.1 = true) : checkB K (bothV K a b).1 = true := by
  unfold bothV at hi ⊢
  cases hq : daysB K a b with
  | none => rw [hq] at hi; cases hi
  | some q =>
    rw [hq] at hi
    simp only at hi ⊢
    split at hi
    · rename_i hz
      rw [if_pos hz]
      obtain ⟨a0, ad, aw⟩ := check_all ha
      obtain ⟨b0, bd, bw⟩ := check_all hb
      have sub : ∀ x y f : Nat, y &&& f = y → (x &&& y) &&& f = x &&& y := fun x y f h => by rw [Nat.and_assoc, h]
      have z0 := (b0 0 _ rfl).2
      have z1 := (b0 1 _ rfl).2
      have z2 := (b0 2 _ rfl).2
      have z3 := (b0 3 _ rfl).2
      have z4 := (b0 4 _ rfl).2
      have z5 := (b0 5 _ rfl).2
      have y3 := (a0 3 _ rfl).2
      have y5 := (a0 5 _ rfl).2
      have hdays : q.1 &&& Fs.full (K 3) = q.1 ∧ q.2.1 &&& Fs.full (K 5) = q.2.1 ∧ (q.2.2.1 = true → q.1 = Fs.full (K 3)) ∧ (q.2.2.2 = true → q.2.1 = Fs.full (K 5)) := by
        unfold daysB at hq
        split at hq
        · injection hq with hq; subst hq; exact ⟨z3, z5, bd, bw⟩
        · rename_i hfa
          split at hq
          · injection hq with hq; subst hq; exact ⟨y3, y5, ad, aw⟩
          · rename_i hfb
            split at hq
            · rename_i hd
              rw [Bool.and_eq_true] at hd
              injection hq with hq; subst hq
              refine ⟨z3, sub _ _ _ z5, bd, fun hw => ?_⟩
              simp only at hw
              unfold freeB at hfb
              simp [hd.2, hw] at hfb
            · split at hq
              · rename_i hd
                rw [Bool.and_eq_true] at hd
                injection hq with hq; subst hq
                refine ⟨sub _ _ _ z3, z5, fun hw => ?_, bw⟩
                simp only at hw
                unfold freeB at hfb
                simp [hd.2, hw] at hfb
              · split at hq
                · cases hq
                · injection hq with hq; subst hq; exact ⟨z3, z5, bd, bw⟩
      obtain ⟨q1, q2, q3, q4⟩ := hdays
      have nz := List.all_eq_true.1 hz
      have n0 := nz (a.second &&& b.second) (by simp [joinE, Ex.sets])
      have n1 := nz (a.minute &&& b.minute) (by simp [joinE, Ex.sets])
      have n2 := nz (a.hour &&& b.hour) (by simp [joinE, Ex.sets])
      have n3 := nz q.1 (by simp [joinE, Ex.sets])
      have n4 := nz (a.month &&& b.month) (by simp [joinE, Ex.sets])
      have n5 := nz q.2.1 (by simp [joinE, Ex.sets])
      simp only [ne_eq, decide_not, Bool.not_eq_true', decide_eq_false_iff_not] at n0 n1 n2 n3 n4 n5
      exact check_of (a := (a.second &&& b.second, false)) (b := (a.minute &&& b.minute, false)) (c := (a.hour &&& b.hour, false)) (d := (q.1, q.2.2.1)) (e := (a.month &&& b.month, false)) (f := (q.2.1, q.2.2.2))
        ⟨n0, sub _ _ _ z0, fun h => by cases h⟩ ⟨n1, sub _ _ _ z1, fun h => by cases h⟩ ⟨n2, sub _ _ _ z2, fun h => by cases h⟩ ⟨n3, q1, q3⟩ ⟨n4, sub _ _ _ z4, fun h => by cases h⟩ ⟨n5, q2, q4⟩
    · cases hi

/-- The order of both does not matter for the error. -/
theorem days_none : daysB K a b = none → daysB K b a = none ∧ (!a.anyDay && !a.anyWeek || !b.anyDay && !b.anyWeek || a.anyDay != b.anyDay) = true := by
  intro h
  unfold daysB at h
  split at h
  · cases h
  · rename_i hfa
    split at h
    · cases h
    · rename_i hfb
      split at h
      · cases h
      · rename_i h1
        split at h
        · cases h
        · rename_i h2
          split at h
          · rename_i h3
            constructor
            · unfold daysB
              rw [if_neg hfb, if_neg hfa, if_neg (by rw [Bool.and_comm]; exact h1), if_neg (by rw [Bool.and_comm]; exact h2), if_pos]
              simp only [Bool.or_eq_true, bne_iff_ne, ne_eq, decide_eq_true_eq] at h3 ⊢
              rcases h3 with ((h3 | h3) | h3) | h3
              · exact .inl (.inl (.inl fun e => h3 e.symm))
              · exact .inl (.inl (.inr fun e => h3 e.symm))
              · exact .inl (.inr fun e => h3 e.symm)
              · exact .inr fun e => h3 e.symm
            · cases hd : a.anyDay <;> cases hd' : b.anyDay <;> cases hw : a.anyWeek <;> cases hw' : b.anyWeek <;> simp [hd, hd', hw, hw'] at h1 h2 ⊢
          · cases h
theorem days_some (ha : checkB K a = true) (hb : checkB K b = true) {p q : Nat × Nat × Bool × Bool} (hp : daysB K a b = some p) (hq : daysB K b a = some q) : (p.1 ≠ 0 ∧ p.2.1 ≠ 0) ↔ (q.1 ≠ 0 ∧ q.2.1 ≠ 0) := by
  obtain ⟨a0, ad, aw⟩ := check_all ha
  obtain ⟨b0, bd, bw⟩ := check_all hb
  have na := (a0 3 a.day rfl).1
  have nb := (b0 3 b.day rfl).1
  have ma := (a0 5 a.week rfl).1
  have mb := (b0 5 b.week rfl).1
  unfold daysB at hp hq
  by_cases fa : freeB K a = true
  · by_cases fb : freeB K b = true
    · rw [if_pos fa] at hp
      rw [if_pos fb] at hq
      injection hp with hp; injection hq with hq; subst hp; subst hq
      exact ⟨fun _ => ⟨na, ma⟩, fun _ => ⟨nb, mb⟩⟩
    · rw [if_pos fa] at hp
      rw [if_neg fb, if_pos fa] at hq
      rw [hp] at hq; injection hq with hq; subst hq; exact Iff.rfl
  · by_cases fb : freeB K b = true
    · rw [if_neg fa, if_pos fb] at hp
      rw [if_pos fb] at hq
      rw [hp] at hq; injection hq with hq; subst hq; exact Iff.rfl
    · rw [if_neg fa, if_neg fb] at hp
      rw [if_neg fb, if_neg fa] at hq
      by_cases h1 : (a.anyDay && b.anyDay) = true
      · rw [if_pos h1] at hp
        rw [if_pos (by rw [Bool.and_comm]; exact h1)] at hq
        injection hp with hp; injection hq with hq; subst hp; subst hq
        simp only [ne_eq, na, nb, not_false_eq_true, true_and]
        rw [Nat.and_comm]
      · rw [if_neg h1] at hp
        rw [if_neg (by rw [Bool.and_comm]; exact h1)] at hq
        by_cases h2 : (a.anyWeek && b.anyWeek) = true
        · rw [if_pos h2] at hp
          rw [if_pos (by rw [Bool.and_comm]; exact h2)] at hq
          injection hp with hp; injection hq with hq; subst hp; subst hq
          simp only [ne_eq, ma, mb, not_false_eq_true, and_true]
          rw [Nat.and_comm]
        · rw [if_neg h2] at hp
          rw [if_neg (by rw [Bool.and_comm]; exact h2)] at hq
          split at hp
          · cases hp
          · split at hq
            · cases hq
            · injection hp with hp; injection hq with hq; subst hp; subst hq
              exact ⟨fun _ => ⟨na, ma⟩, fun _ => ⟨nb, mb⟩⟩
/-- The order of both does not matter for whether there is a result, and for the error. -/
theorem both_comm (ha : checkB K a = true) (hb : checkB K b = true) : (bothV K a b).2 = (bothV K b a).2 := by
  unfold bothV
  cases hp : daysB K a b with
  | none => rw [(days_none hp).1]
  | some p =>
    cases hq : daysB K b a with
    | none => rw [(days_none hq).1] at hp; cases hp
    | some q =>
      have h := days_some ha hb hp hq
      have he : (joinE a b p).sets.all (fun s => decide (s ≠ 0)) = (joinE b a q).sets.all (fun s => decide (s ≠ 0)) := by
        rw [Bool.eq_iff_iff]
        simp only [joinE, Ex.sets, List.all_cons, List.all_nil, Bool.and_true, Bool.and_eq_true, decide_eq_true_eq]
        rw [Nat.and_comm a.second, Nat.and_comm a.minute, Nat.and_comm a.hour, Nat.and_comm a.month]
        constructor
        · rintro ⟨h0, h1, h2, h3, h4, h5⟩
          obtain ⟨g3, g5⟩ := h.1 ⟨h3, h5⟩
          exact ⟨h0, h1, h2, g3, h4, g5⟩
        · rintro ⟨h0, h1, h2, h3, h4, h5⟩
          obtain ⟨g3, g5⟩ := h.2 ⟨h3, h5⟩
          exact ⟨h0, h1, h2, g3, h4, g5⟩
      simp only [he]
      split <;> rfl
end
end Xs
end Go.Proofs.YtjnlgaeedcklaaaGreatDoor
