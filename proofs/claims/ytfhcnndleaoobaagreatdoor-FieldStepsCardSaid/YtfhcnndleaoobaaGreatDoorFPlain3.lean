/-
  The plain laws of lists, places, ranges and steps, at a kind that is allowed. No program in sight.
-/
import Derived.Test.YtfhcnndleaoobaaGreatDoorFPlain2
set_option linter.unusedVariables false
set_option linter.unusedSimpArgs false
namespace Go.Proofs.YtfhcnndleaoobaaGreatDoor
namespace Fs

theorem parse_bad {k : Kind} {l : Bytes} (hk : checkB k = true) {a : Nat} (h : reads k l 0 = .bad a) : parse k l = (0, false, a, 10) := by
  rw [parse_reads k l hk, h]
theorem parse_ok {k : Kind} {l : Bytes} (hk : checkB k = true) {xs : List Item} {b : Nat} (h : reads k l 0 = .ok xs b) : (parse k l).2.2.2 ≠ 10 := by
  rw [parse_reads k l hk, h]
  rcases hs : setOf k xs 0 with ⟨s, _ | a⟩ <;> simp [hs]
theorem bad_of {k : Kind} {l : Bytes} (hk : checkB k = true) (h : (parse k l).2.2.2 = 10) : reads k l 0 = .bad (parse k l).2.2.1 ∧ parse k l = (0, false, (parse k l).2.2.1, 10) := by
  cases hr : reads k l 0 with
  | bad a => rw [parse_bad hk hr]; exact ⟨rfl, rfl⟩
  | ok xs b => exact absurd h (parse_ok hk hr)

/-- **Places.** -/
theorem places_plain {k : Kind} (hk : checkB k = true) (s : Bytes) (b : Nat) (hp : (parse k s).2.2.2 = 10) (hb : (parse k s).2.2.1 = b) (hl : ∀ c, s[b]? = some c → letterB c = false) :
    b ≤ s.length ∧ (b < s.length → ∀ more, parse k (s.take (b + 1) ++ more) = (0, false, b, 10)) ∧
      ((parse k (s.take b)).2.2.2 = 10 → (parse k (s.take b)).2.2.1 = b ∧ (parse k (s.take b ++ [49])).2.2.2 ≠ 10) := by
  obtain ⟨h1, _⟩ := bad_of hk hp
  rw [hb] at h1
  obtain ⟨p1, p2, p3, p4⟩ := places k s b hl h1
  refine ⟨p1, fun h more => parse_bad hk (p2 h more), fun h => ?_⟩
  obtain ⟨h2, _⟩ := bad_of hk h
  refine ⟨p3 _ h2, ?_⟩
  rcases p4 with ⟨xs, h3⟩ | ⟨xs, h3⟩
  · rw [h2] at h3; cases h3
  · exact parse_ok hk h3

/-- One item that is the whole text, and no star. -/
theorem parse_item {k : Kind} (hk : checkB k = true) {t : Bytes} {x : Item} (h : itemAt k t 0 = .ok x t.length) (hs : (t == [42]) = false) :
    parse k t = match wrongAt k x with
      | some a => (0, false, a, 2)
      | none => (itemSet k x 0, false, 0, 0) := by
  rw [parse_reads k t hk, reads_single h]
  simp only [setOf]
  cases wrongAt k x <;> simp [hs]

theorem itemSet_bit {k : Kind} {x : Item} (h : 0 < itemStep x) (i : Nat) : (itemSet k x 0).testBit i = true ↔ ∃ j, itemLo k x + j * itemStep x ≤ itemHi k x ∧ i = wk k.week (itemLo k x + j * itemStep x) := by
  unfold itemSet
  rw [setFrom_bit _ _ _ h _ _ _ _ (by omega)]
  simp

/-- The greatest number that may be written. -/
def mostOf (week : Bool) (hi : Nat) : Nat := if week then 7 else hi
theorem inB_most {k : Kind} {lo hi : Nat} (hlo : k.lo = lo) (hhi : k.hi = hi) (hle : lo ≤ hi) (hw : k.week = true → lo = 0 ∧ hi = 6) (n : Nat) : inB k n = true ↔ lo ≤ n ∧ n ≤ mostOf k.week hi := by
  rw [inB_nat hlo hhi, mostOf]
  cases hk : k.week with
  | false => simp
  | true => obtain ⟨rfl, rfl⟩ := hw hk; simp; omega

theorem dig_ne_star {n : Nat} (hn : n < 100) (t : Bytes) : (dig n ++ t == [42]) = false := by
  rw [beq_eq_false_iff_ne]
  intro he
  have := dig_noStar hn t
  rw [he] at this
  simp at this

/-- The text of a range with a step. -/
def rangeText (a b c : Nat) : Bytes := dig a ++ (45 :: (dig b ++ (47 :: dig c)))

/-- **Ranges.** -/
theorem ranges_bad {k : Kind} (hk : checkB k = true) {lo hi : Nat} (hlo : k.lo = lo) (hhi : k.hi = hi) (a b c : Nat) (ha : a < 100) (hb : b < 100) (hc : c < 100)
    (h : a < lo ∨ mostOf k.week hi < b ∨ b < a ∨ c = 0) : ∃ p, p ≤ 6 ∧ parse k (rangeText a b c) = (0, false, p, 2) := by
  obtain ⟨lo', hi', hlo', hhi', hle, h62, hw⟩ := check_nat hk
  obtain rfl : lo' = lo := by omega
  obtain rfl : hi' = hi := by omega
  have e := itemAt_two (k := k) (l := rangeText a b c) (a := 0) (n := a) (m := b) (some c) ha hb (by intro m h; injection h with h; omega) [] (by simp [rangeText, stepText]) endB_nil
  have el : 0 + (dig a).length + 1 + (dig b).length + (stepText (some c)).length = (rangeText a b c).length := by
    simp only [rangeText, stepText, List.length_append, List.length_cons]; omega
  rw [el] at e
  have la := dig_len a ha
  have lb := dig_len b hb
  have lc := dig_len c hc
  rw [parse_item hk e (dig_ne_star ha _)]
  have ka := inB_most hlo hhi hle hw a
  have kb := inB_most hlo hhi hle hw b
  cases ha' : inB k a with
  | false => exact ⟨0, by omega, by simp [wrongAt, ha']⟩
  | true =>
    rw [ha'] at ka
    have ka := ka.1 rfl
    cases hb' : inB k b with
    | false => exact ⟨0 + (dig a).length + 1, by omega, by simp [wrongAt, ha', hb']⟩
    | true =>
      rw [hb'] at kb
      have kb := kb.1 rfl
      by_cases hba : b < a
      · exact ⟨0, by omega, by simp [wrongAt, ha', hb', hba]⟩
      · obtain rfl : c = 0 := by omega
        exact ⟨0 + (dig a).length + 1 + (dig b).length + 1, by omega, by simp [wrongAt, ha', hb', hba]⟩

theorem ranges_good {k : Kind} (hk : checkB k = true) {lo hi : Nat} (hlo : k.lo = lo) (hhi : k.hi = hi) (a b c : Nat) (ha : a < 100) (hb : b < 100) (hc : c < 100)
    (h1 : lo ≤ a) (h2 : b ≤ mostOf k.week hi) (h3 : a ≤ b) (h4 : c ≠ 0) : ∃ S, parse k (rangeText a b c) = (S, false, 0, 0) ∧
      ∀ i, S.testBit i = true ↔ ∃ n, a ≤ n ∧ n ≤ b ∧ (n - a) % c = 0 ∧ i = wk k.week n := by
  obtain ⟨lo', hi', hlo', hhi', hle, h62, hw⟩ := check_nat hk
  obtain rfl : lo' = lo := by omega
  obtain rfl : hi' = hi := by omega
  have e := itemAt_two (k := k) (l := rangeText a b c) (a := 0) (n := a) (m := b) (some c) ha hb (by intro m h; injection h with h; omega) [] (by simp [rangeText, stepText]) endB_nil
  have el : 0 + (dig a).length + 1 + (dig b).length + (stepText (some c)).length = (rangeText a b c).length := by
    simp only [rangeText, stepText, List.length_append, List.length_cons]; omega
  rw [el] at e
  have ka : inB k a = true := (inB_most hlo hhi hle hw a).2 ⟨h1, by omega⟩
  have kb : inB k b = true := (inB_most hlo hhi hle hw b).2 ⟨by omega, h2⟩
  have hba : ¬ b < a := by omega
  rw [parse_item hk e (dig_ne_star ha _)]
  have hwr : wrongAt k ⟨false, 0, some (a, 0), some (b, 0 + (dig a).length + 1), (some c).map fun q => (q, 0 + (dig a).length + 1 + (dig b).length + 1)⟩ = none := by
    simp [wrongAt, ka, kb, hba, h4]
  rw [hwr]
  refine ⟨_, rfl, fun i => ?_⟩
  rw [itemSet_bit (by simp [itemStep]; omega)]
  simp only [itemLo, itemHi, itemStep, Option.map_some, Option.getD_some, Bool.false_eq_true, if_false]
  constructor
  · rintro ⟨j, h5, rfl⟩
    exact ⟨a + j * c, by omega, h5, by rw [Nat.add_sub_cancel_left]; exact Nat.mul_mod_left _ _, rfl⟩
  · rintro ⟨n, h5, h6, h7, rfl⟩
    have h8 := Nat.div_add_mod (n - a) c
    rw [h7, Nat.add_zero, Nat.mul_comm] at h8
    exact ⟨(n - a) / c, by rw [h8]; omega, by rw [h8]; congr 1; omega⟩

theorem set_lt {k : Kind} (hk : checkB k = true) (l : Bytes) {S : Nat} {st : Bool} {a : Nat} {e : Int} (h : parse k l = (S, st, a, e)) : S < 18446744073709551616 := by
  have := parse_lt hk l
  rw [h] at this; exact this

/-- What the loop of FieldRanges has come to ahead of the number n. -/
def rangeSet (week : Bool) (a b c lo : Nat) : Nat → Nat
  | 0 => 0
  | f + 1 => if a ≤ lo + f ∧ lo + f ≤ b ∧ (lo + f - a) % c = 0 then rangeSet week a b c lo f ||| 2 ^ wk week (lo + f) else rangeSet week a b c lo f
theorem rangeSet_bit (week : Bool) (a b c lo : Nat) (i : Nat) : ∀ f, (rangeSet week a b c lo f).testBit i = true ↔ ∃ n, lo ≤ n ∧ n < lo + f ∧ a ≤ n ∧ n ≤ b ∧ (n - a) % c = 0 ∧ i = wk week n := by
  intro f
  induction f with
  | zero => simp only [rangeSet, Nat.zero_testBit, Bool.false_eq_true, false_iff]; rintro ⟨n, h⟩; omega
  | succ f ih =>
    rw [rangeSet]
    split
    · rename_i h
      rw [Nat.testBit_or, Bool.or_eq_true, ih, Nat.testBit_two_pow, decide_eq_true_eq]
      constructor
      · rintro (⟨n, h1, h2, h3⟩ | h1)
        · exact ⟨n, h1, by omega, h3⟩
        · exact ⟨lo + f, by omega, by omega, h.1, h.2.1, h.2.2, h1.symm⟩
      · rintro ⟨n, h1, h2, h3, h4, h5, h6⟩
        by_cases hn : n = lo + f
        · subst hn; exact .inr h6.symm
        · exact .inl ⟨n, h1, by omega, h3, h4, h5, h6⟩
    · rename_i h
      rw [ih]
      constructor
      · rintro ⟨n, h1, h2, h3⟩
        exact ⟨n, h1, by omega, h3⟩
      · rintro ⟨n, h1, h2, h3, h4, h5, h6⟩
        by_cases hn : n = lo + f
        · subst hn; exact absurd ⟨h3, h4, h5⟩ h
        · exact ⟨n, h1, by omega, h3, h4, h5, h6⟩
theorem rangeSet_lt (week : Bool) (a b c lo f : Nat) (hb : b ≤ 62) : rangeSet week a b c lo f < 18446744073709551616 := by
  rw [show (18446744073709551616 : Nat) = 2 ^ 64 from rfl]
  apply Nat.lt_pow_two_of_testBit
  intro i h
  cases hb' : (rangeSet week a b c lo f).testBit i with
  | false => rfl
  | true =>
    obtain ⟨n, h1, h2, h3, h4, h5, rfl⟩ := (rangeSet_bit ..).1 hb'
    have : wk week n ≤ n := by unfold wk; split; exact Nat.mod_le _ _; exact Nat.le_refl _
    omega

/-- **Ranges**: the set is the loop's. -/
theorem ranges_loop {k : Kind} (hk : checkB k = true) {lo hi : Nat} (hlo : k.lo = lo) (hhi : k.hi = hi) (a b c : Nat) (ha : a < 100) (hb : b < 100) (hc : c < 100)
    (h1 : lo ≤ a) (h2 : b ≤ mostOf k.week hi) (h3 : a ≤ b) (h4 : c ≠ 0) : parse k (rangeText a b c) = (rangeSet k.week a b c lo (mostOf k.week hi + 1 - lo), false, 0, 0) := by
  obtain ⟨S, hS, hb⟩ := ranges_good hk hlo hhi a b c ha hb hc h1 h2 h3 h4
  rw [hS]
  congr 1
  refine bits_ext fun i => ?_
  rw [hb, rangeSet_bit]
  constructor
  · rintro ⟨n, q1, q2, q3, q4⟩; exact ⟨n, by omega, by omega, q1, q2, q3, q4⟩
  · rintro ⟨n, q1, q2, q3, q4, q5, q6⟩; exact ⟨n, q3, q4, q5, q6⟩

/-- **Steps.** -/
theorem steps_plain {k : Kind} (hk : checkB k = true) {lo hi : Nat} (hlo : k.lo = lo) (hhi : k.hi = hi) (n c : Nat) (hn1 : lo ≤ n) (hn2 : n ≤ hi) (hc : c < 100) (hc0 : c ≠ 0) :
    ∃ X Y : Nat, parse k (42 :: 47 :: dig c) = (X, false, 0, 0) ∧ parse k (dig n ++ 47 :: dig c) = (Y, false, 0, 0) ∧ parse k (dig n) = (2 ^ n, false, 0, 0) ∧
      (c = 1 → X = full k) ∧ X &&& full k = X ∧ Y &&& full k = Y ∧ (∀ v, lo ≤ v → v ≤ hi → (X.testBit v = true ↔ (v - lo) % c = 0)) ∧ (∀ v, lo ≤ v → v ≤ hi → (Y.testBit v = true ↔ n ≤ v ∧ (v - n) % c = 0)) := by
  obtain ⟨lo', hi', hlo', hhi', hle, h62, hw⟩ := check_nat hk
  obtain rfl : lo' = lo := by omega
  obtain rfl : hi' = hi := by omega
  have hn : n < 100 := by omega
  have inn : inB k n = true := (inB_nat hlo hhi n).2 (.inl ⟨hn1, hn2⟩)
  have wkid : ∀ v, v ≤ hi' → wk k.week v = v := by
    intro v hv
    unfold wk
    split
    · rename_i h; have := hw h; exact Nat.mod_eq_of_lt (by omega)
    · rfl
  have e1 := itemAt_star (k := k) (l := 42 :: 47 :: dig c) (a := 0) (some c) (by intro m h; injection h with h; omega) [] (by simp [stepText]) endB_nil
  rw [show 0 + 1 + (stepText (some c)).length = (42 :: 47 :: dig c).length from by simp [stepText]; omega] at e1
  have e2 := itemAt_one (k := k) (l := dig n ++ 47 :: dig c) (a := 0) (n := n) (some c) hn (by intro m h; injection h with h; omega) [] (by simp [stepText]) endB_nil
  rw [show 0 + (dig n).length + (stepText (some c)).length = (dig n ++ 47 :: dig c).length from by simp [stepText]] at e2
  have e3 := itemAt_one (k := k) (l := dig n) (a := 0) (n := n) none hn (by intro m h; cases h) [] (by simp [stepText]) endB_nil
  rw [show 0 + (dig n).length + (stepText none).length = (dig n).length from by simp [stepText]] at e3
  have w1 : wrongAt k ⟨true, 0, none, none, (some c).map fun m => (m, 0 + 1 + 1)⟩ = none := by simp [wrongAt, hc0]
  have w2 : wrongAt k ⟨false, 0, some (n, 0), none, (some c).map fun m => (m, 0 + (dig n).length + 1)⟩ = none := by simp [wrongAt, inn, hc0]
  have w3 : wrongAt k ⟨false, 0, some (n, 0), none, (none : Option Nat).map fun m => (m, 0 + (dig n).length + 1)⟩ = none := by simp [wrongAt, inn]
  have p1 := parse_item hk e1 (by rw [beq_eq_false_iff_ne]; simp)
  have p2 := parse_item hk e2 (dig_ne_star hn _)
  have p3 := parse_item hk e3 (by have := dig_ne_star hn []; rwa [List.append_nil] at this)
  rw [w1] at p1
  rw [w2] at p2
  rw [w3] at p3
  have b1 := fun i => itemSet_bit (k := k) (x := ⟨true, 0, none, none, (some c).map fun m => (m, 0 + 1 + 1)⟩) (by simp [itemStep]; omega) i
  have b2 := fun i => itemSet_bit (k := k) (x := ⟨false, 0, some (n, 0), none, (some c).map fun m => (m, 0 + (dig n).length + 1)⟩) (by simp [itemStep]; omega) i
  have b3 := fun i => itemSet_bit (k := k) (x := ⟨false, 0, some (n, 0), none, (none : Option Nat).map fun m => (m, 0 + (dig n).length + 1)⟩) (by simp [itemStep]) i
  simp only [itemLo, itemHi, itemStep, Option.map_some, Option.map_none, Option.getD_some, Option.getD_none, Bool.false_eq_true, if_false, if_true, Option.isSome_some, Option.isSome_none, hlo, hhi, Int.toNat_natCast, Nat.max_eq_right hn2] at b1 b2 b3
  have c1 : ∀ i, (itemSet k ⟨true, 0, none, none, (some c).map fun m => (m, 0 + 1 + 1)⟩ 0).testBit i = true ↔ (lo' ≤ i ∧ i ≤ hi') ∧ (i - lo') % c = 0 := by
    intro i
    refine (b1 i).trans ⟨?_, ?_⟩
    · rintro ⟨j, h1, h2⟩
      rw [wkid _ h1] at h2
      subst h2
      exact ⟨⟨by omega, h1⟩, by rw [Nat.add_sub_cancel_left]; exact Nat.mul_mod_left _ _⟩
    · rintro ⟨⟨h1, h2⟩, h3⟩
      have h8 := Nat.div_add_mod (i - lo') c
      rw [h3, Nat.add_zero, Nat.mul_comm] at h8
      have e : lo' + (i - lo') / c * c = i := by omega
      exact ⟨(i - lo') / c, by rw [e]; exact h2, by rw [e, wkid _ h2]⟩
  have c2 : ∀ i, (itemSet k ⟨false, 0, some (n, 0), none, (some c).map fun m => (m, 0 + (dig n).length + 1)⟩ 0).testBit i = true ↔ (n ≤ i ∧ i ≤ hi') ∧ (i - n) % c = 0 := by
    intro i
    refine (b2 i).trans ⟨?_, ?_⟩
    · rintro ⟨j, h1, h2⟩
      rw [wkid _ h1] at h2
      subst h2
      exact ⟨⟨by omega, h1⟩, by rw [Nat.add_sub_cancel_left]; exact Nat.mul_mod_left _ _⟩
    · rintro ⟨⟨h1, h2⟩, h3⟩
      have h8 := Nat.div_add_mod (i - n) c
      rw [h3, Nat.add_zero, Nat.mul_comm] at h8
      have e : n + (i - n) / c * c = i := by omega
      exact ⟨(i - n) / c, by rw [e]; exact h2, by rw [e, wkid _ h2]⟩
  refine ⟨_, _, p1, p2, ?_, fun h => ?_, ?_, ?_, fun v h1 h2 => ?_, fun v h1 h2 => ?_⟩
  · refine p3.trans ?_
    refine congrArg (fun z => (z, false, 0, (0 : Int))) ?_
    refine bits_ext fun i => ?_
    refine (b3 i).trans ?_
    rw [Nat.testBit_two_pow, decide_eq_true_eq]
    constructor
    · rintro ⟨j, h1, rfl⟩
      rw [wkid _ (by omega)]; omega
    · rintro rfl
      exact ⟨0, by omega, by rw [Nat.zero_mul, Nat.add_zero, wkid _ hn2]⟩
  · subst h
    refine bits_ext fun i => ?_
    rw [c1, full_bit hlo hhi hle]
    simp [Nat.mod_one]
  · exact subset_of fun i h => (full_bit hlo hhi hle i).2 ((c1 i).1 h).1
  · exact subset_of fun i h => (full_bit hlo hhi hle i).2 (by have := ((c2 i).1 h).1; omega)
  · rw [c1]; exact ⟨fun h => h.2, fun h => ⟨⟨h1, h2⟩, h⟩⟩
  · rw [c2]; exact ⟨fun h => ⟨h.1.1, h.2⟩, fun h => ⟨⟨h.1, h2⟩, h.2⟩⟩
end Fs
end Go.Proofs.YtfhcnndleaoobaaGreatDoor
