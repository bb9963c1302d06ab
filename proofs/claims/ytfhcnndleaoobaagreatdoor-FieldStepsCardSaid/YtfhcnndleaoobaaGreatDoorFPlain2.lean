/-
  What Parse returns, as the laws ask: sets within the kind, places within the text. No program in sight.
-/
import Derived.Test.YtfhcnndleaoobaaGreatDoorFBack
set_option linter.unusedVariables false
set_option linter.unusedSimpArgs false
namespace Go.Proofs.YtfhcnndleaoobaaGreatDoor
namespace Fs

/-- What a read item is: a star, or a number, or a range; its places lie within the text. -/
structure Shape (l : Bytes) (x : Item) : Prop where
  star : x.star = true → x.lo = none ∧ x.hi = none
  lo : x.star = false → ∃ p, x.lo = some p
  plo : ∀ p, x.lo = some p → p.2 < l.length
  phi : ∀ p, x.hi = some p → p.2 < l.length
  pst : ∀ p, x.step = some p → p.2 < l.length

theorem numAt_lt {l : Bytes} {a v b : Nat} (h : numAt l a = some (v, b)) : a < l.length := by have := numAt_le' h; omega
theorem valAt_lt {k : Kind} {l : Bytes} {a v b : Nat} (h : valAt k l a = some (v, b)) : a < l.length := by have := valAt_le' h; omega

theorem stepAt_shape {l : Bytes} {x y : Item} {a b : Nat} (h : stepAt l x a = .ok y b) (hx : x.step = none) : ∃ st, y = { x with step := st } ∧ ∀ p, st = some p → p.2 < l.length := by
  unfold stepAt at h
  split at h
  · split at h
    · rename_i n c hc
      injection h with h3 h4
      subst h3 h4
      exact ⟨_, rfl, fun p hp => by cases hp; exact numAt_lt hc⟩
    · cases h
  · injection h with h3 h4
    subst h3 h4
    exact ⟨none, by rw [← hx], fun p hp => by cases hp⟩

theorem itemAt_shape {k : Kind} {l : Bytes} {a b : Nat} {x : Item} (h : itemAt k l a = .ok x b) : Shape l x := by
  unfold itemAt at h
  split at h
  · obtain ⟨st, rfl, hs⟩ := stepAt_shape h rfl
    exact ⟨fun _ => ⟨rfl, rfl⟩, (by intro h; cases h), (by intro p h; cases h), (by intro p h; cases h), hs⟩
  · split at h
    · cases h
    · rename_i n b1 hv
      split at h
      · split at h
        · cases h
        · rename_i m c hv2
          obtain ⟨st, rfl, hs⟩ := stepAt_shape h rfl
          exact ⟨(by intro h; cases h), fun _ => ⟨_, rfl⟩, (by intro p h; cases h; exact valAt_lt hv), (by intro p h; cases h; exact valAt_lt hv2), hs⟩
      · obtain ⟨st, rfl, hs⟩ := stepAt_shape h rfl
        exact ⟨(by intro h; cases h), fun _ => ⟨_, rfl⟩, (by intro p h; cases h; exact valAt_lt hv), (by intro p h; cases h), hs⟩

theorem itemAt_bad_le {k : Kind} {l : Bytes} {a b : Nat} (h : itemAt k l a = .bad b) (ha : a ≤ l.length) : b ≤ l.length := by
  have st : ∀ (x : Item) (c : Nat), stepAt l x c = .bad b → b ≤ l.length := by
    intro x c h
    unfold stepAt at h
    split at h
    · rename_i hq
      have := byte_lt hq
      split at h
      · cases h
      · injection h with h; omega
    · cases h
  unfold itemAt at h
  split at h
  · exact st _ _ h
  · split at h
    · injection h with h; omega
    · rename_i n b1 hv
      have := valAt_le' hv
      split at h
      · rename_i hq
        have := byte_lt hq
        split at h
        · injection h with h; omega
        · exact st _ _ h
      · exact st _ _ h

theorem itemsAt_shape {k : Kind} {l : Bytes} : ∀ (f a : Nat) (xs : List Item) (b : Nat), itemsAt k l f a = .ok xs b → xs ≠ [] ∧ ∀ x ∈ xs, Shape l x := by
  intro f
  induction f with
  | zero => intro a xs b h; cases h
  | succ f ih =>
    intro a xs b h
    unfold itemsAt at h
    split at h
    · cases h
    · rename_i x b1 hx
      have sx := itemAt_shape hx
      split at h
      · injection h with h1 h2; subst h1
        exact ⟨by simp, fun y hy => by rw [List.mem_singleton.1 hy]; exact sx⟩
      · split at h
        · split at h
          · cases h
          · rename_i r c hr
            injection h with h1 h2; subst h1
            exact ⟨by simp, fun y hy => by
              rcases List.mem_cons.1 hy with rfl | hy
              · exact sx
              · exact (ih _ _ _ hr).2 y hy⟩
        · cases h
theorem itemsAt_bad_le {k : Kind} {l : Bytes} : ∀ (f a b : Nat), a ≤ l.length → itemsAt k l f a = .bad b → b ≤ l.length := by
  intro f
  induction f with
  | zero => intro a b ha h; injection h with h; omega
  | succ f ih =>
    intro a b ha h
    unfold itemsAt at h
    split at h
    · rename_i c hc
      injection h with h; subst h
      exact itemAt_bad_le hc ha
    · rename_i x b1 hx
      have := itemAt_le hx
      split at h
      · cases h
      · split at h
        · rename_i hq
          have := byte_lt hq
          split at h
          · rename_i c hc
            injection h with h; subst h
            exact ih _ _ (by omega) hc
          · cases h
        · injection h with h; omega

theorem wrongAt_lt {k : Kind} {l : Bytes} {x : Item} {a : Nat} (hx : Shape l x) (h : wrongAt k x = some a) : a < l.length := by
  have pick : ∀ (q : Part), (∀ p, q = some p → p.2 < l.length) → q.map (·.2) = some a → a < l.length := by
    intro q hq h
    obtain ⟨p, hp, rfl⟩ := Option.map_eq_some_iff.1 h
    exact hq p hp
  unfold wrongAt at h
  simp only at h
  split at h
  · exact pick _ hx.plo h
  · split at h
    · exact pick _ hx.phi h
    · split at h
      · exact pick _ hx.plo h
      · split at h
        · exact pick _ hx.pst h
        · cases h

/-- The numbers of an item that is not wrong. -/
theorem item_good {k : Kind} {lo hi : Nat} (hlo : k.lo = lo) (hhi : k.hi = hi) (hle : lo ≤ hi) (hw : k.week = true → lo = 0 ∧ hi = 6) {l : Bytes} {x : Item} (hx : Shape l x) (hn : wrongAt k x = none) :
    0 < itemStep x ∧ itemLo k x ≤ itemHi k x ∧ ∀ n, itemLo k x ≤ n → n ≤ itemHi k x → lo ≤ wk k.week n ∧ wk k.week n ≤ hi := by
  obtain ⟨s, a, plo, phi, pst⟩ := x
  have key : ∀ n, inB k n = true ↔ (lo ≤ n ∧ n ≤ hi) ∨ (k.week = true ∧ n = 7) := inB_nat hlo hhi
  have step : ∀ p, pst = some p → p.1 ≠ 0 := by
    rintro p rfl h0
    unfold wrongAt at hn
    simp only at hn
    split at hn
    · rename_i h; cases plo <;> simp at h hn
    · split at hn
      · rename_i h; cases phi <;> simp at h hn
      · split at hn
        · rename_i h; cases plo <;> simp at h hn
        · simp [h0] at hn
  have hst : 0 < itemStep ⟨s, a, plo, phi, pst⟩ := by
    unfold itemStep
    cases pst with
    | none => simp
    | some p => have := step p rfl; simp; omega
  have glo : ∀ p, plo = some p → inB k p.1 = true := by
    rintro p rfl
    cases h : inB k p.1 with
    | true => rfl
    | false => unfold wrongAt at hn; simp [h] at hn
  have ghi : ∀ p, phi = some p → inB k p.1 = true := by
    rintro p rfl
    cases h : inB k p.1 with
    | true => rfl
    | false =>
      unfold wrongAt at hn
      simp only at hn
      split at hn
      · rename_i h; cases plo <;> simp at h hn
      · simp [h] at hn
  have gle : ∀ p q, plo = some q → phi = some p → q.1 ≤ p.1 := by
    rintro p q rfl rfl
    have h1 := glo q rfl
    have h2 := ghi p rfl
    rcases Nat.lt_or_ge p.1 q.1 with h | h
    · unfold wrongAt at hn; simp [h1, h2, h] at hn
    · exact h
  have fin : ∀ n m, (inB k m = true ∨ m ≤ hi) → lo ≤ n → n ≤ m → lo ≤ wk k.week n ∧ wk k.week n ≤ hi := by
    intro n m hm h1 h2
    cases hwk : k.week with
    | false =>
      simp only [wk, Bool.false_eq_true, if_false]
      rcases hm with hm | hm
      · rcases (key m).1 hm with h | h
        · omega
        · rw [hwk] at h; cases h.1
      · omega
    | true =>
      obtain ⟨rfl, rfl⟩ := hw hwk
      simp only [wk, if_true]
      omega
  refine ⟨hst, ?_⟩
  cases s with
  | true =>
    have h1 : itemLo k ⟨true, a, plo, phi, pst⟩ = lo := by simp [itemLo, hlo]
    have h2 : itemHi k ⟨true, a, plo, phi, pst⟩ = hi := by simp [itemHi, hhi]
    rw [h1, h2]
    exact ⟨hle, fun n a b => fin n hi (.inr (Nat.le_refl _)) a b⟩
  | false =>
    obtain ⟨p, rfl⟩ := hx.lo rfl
    have h1 : itemLo k ⟨false, a, some p, phi, pst⟩ = p.1 := by simp [itemLo]
    have hp := glo p rfl
    have hpl : lo ≤ p.1 := by
      rcases (key _).1 hp with h | h
      · exact h.1
      · obtain ⟨rfl, rfl⟩ := hw h.1; omega
    rw [h1]
    cases phi with
    | some q =>
      have h2 : itemHi k ⟨false, a, some p, some q, pst⟩ = q.1 := by simp [itemHi]
      rw [h2]
      exact ⟨gle q p rfl rfl, fun n h3 h4 => fin n q.1 (.inl (ghi q rfl)) (by omega) h4⟩
    | none =>
      cases pst with
      | none =>
        have h2 : itemHi k ⟨false, a, some p, none, none⟩ = p.1 := by simp [itemHi, itemLo]
        rw [h2]
        exact ⟨Nat.le_refl _, fun n h3 h4 => fin n p.1 (.inl hp) (by omega) h4⟩
      | some q =>
        have h2 : itemHi k ⟨false, a, some p, none, some q⟩ = max p.1 hi := by simp [itemHi, itemLo, hhi]
        rw [h2]
        refine ⟨Nat.le_max_left _ _, fun n h3 h4 => ?_⟩
        rcases Nat.le_total p.1 hi with h | h
        · rw [Nat.max_eq_right h] at h4; exact fin n hi (.inr (Nat.le_refl _)) (by omega) h4
        · rw [Nat.max_eq_left h] at h4; exact fin n p.1 (.inl hp) (by omega) h4

theorem itemSet_good {k : Kind} {lo hi : Nat} (hlo : k.lo = lo) (hhi : k.hi = hi) (hle : lo ≤ hi) (hw : k.week = true → lo = 0 ∧ hi = 6) {l : Bytes} {x : Item} (hx : Shape l x) (hn : wrongAt k x = none) (s : Nat) (i : Nat) :
    ((itemSet k x s).testBit i = true → s.testBit i = true ∨ (lo ≤ i ∧ i ≤ hi)) ∧ itemSet k x s ≠ 0 := by
  obtain ⟨h1, h2, h3⟩ := item_good hlo hhi hle hw hx hn
  have key := fun i => setFrom_bit k.week (itemHi k x) (itemStep x) h1 i (itemHi k x + 1 - itemLo k x) (itemLo k x) s (by omega)
  constructor
  · intro h
    rcases (key i).1 h with h | ⟨j, hj, rfl⟩
    · exact .inl h
    · exact .inr (h3 _ (Nat.le_add_right _ _) hj)
  · intro h0
    have h4 := (key (wk k.week (itemLo k x))).2 (.inr ⟨0, by omega, by simp⟩)
    rw [show setFrom k.week (itemHi k x) (itemStep x) (itemHi k x + 1 - itemLo k x) (itemLo k x) s = itemSet k x s from rfl, h0] at h4
    simp at h4

theorem setOf_good {k : Kind} {lo hi : Nat} (hlo : k.lo = lo) (hhi : k.hi = hi) (hle : lo ≤ hi) (hw : k.week = true → lo = 0 ∧ hi = 6) {l : Bytes} : ∀ (xs : List Item) (s t : Nat), (∀ x ∈ xs, Shape l x) →
    setOf k xs s = (t, none) → (∀ i, t.testBit i = true → s.testBit i = true ∨ (lo ≤ i ∧ i ≤ hi)) ∧ (xs ≠ [] ∨ s ≠ 0 → t ≠ 0) := by
  intro xs
  induction xs with
  | nil =>
    intro s t _ h
    cases h
    refine ⟨fun i h => .inl h, fun h => ?_⟩
    rcases h with h | h
    · exact absurd rfl h
    · exact h
  | cons x xs ih =>
    intro s t hxs h
    unfold setOf at h
    split at h
    · cases h
    · rename_i hn
      obtain ⟨h1, h2⟩ := ih _ _ (fun y hy => hxs y (List.mem_cons_of_mem _ hy)) h
      have g := fun i => itemSet_good hlo hhi hle hw (hxs x (by simp)) hn s i
      refine ⟨fun i hi => ?_, fun _ => h2 (.inr (g 0).2)⟩
      rcases h1 i hi with h | h
      · exact (g i).1 h
      · exact .inr h
theorem setOf_wrong_lt {k : Kind} {l : Bytes} : ∀ (xs : List Item) (s t a : Nat), (∀ x ∈ xs, Shape l x) → setOf k xs s = (t, some a) → a < l.length := by
  intro xs
  induction xs with
  | nil => intro s t a _ h; cases h
  | cons x xs ih =>
    intro s t a hxs h
    unfold setOf at h
    split at h
    · rename_i b hb
      cases h
      exact wrongAt_lt (hxs x (by simp)) hb
    · exact ih _ _ _ (fun y hy => hxs y (List.mem_cons_of_mem _ hy)) h

/-- **What Parse returns of a kind that is allowed.** -/
theorem parse_facts {k : Kind} (hk : checkB k = true) (l : Bytes) :
    ((parse k l).2.2.2 = 0 ∧ (parse k l).1 ≠ 0 ∧ (parse k l).1 &&& full k = (parse k l).1 ∧ (parse k l).2.1 = (l == [42]) ∧ (parse k l).2.2.1 = 0) ∨
    ((parse k l).1 = 0 ∧ (parse k l).2.1 = false ∧ (((parse k l).2.2.2 = 10 ∧ (parse k l).2.2.1 ≤ l.length) ∨ ((parse k l).2.2.2 = 2 ∧ (parse k l).2.2.1 < l.length))) := by
  obtain ⟨lo, hi, hlo, hhi, hle, h62, hw⟩ := check_nat hk
  cases hi' : itemsAt k l (l.length + 1) 0 with
  | bad a =>
    have hp : parse k l = (0, false, a, 10) := by unfold parse; rw [if_pos hk, hi']
    rw [hp]
    exact .inr ⟨rfl, rfl, .inl ⟨rfl, itemsAt_bad_le _ _ _ (Nat.zero_le _) hi'⟩⟩
  | ok xs b =>
    obtain ⟨hne, hsh⟩ := itemsAt_shape _ _ _ _ hi'
    rcases hs : setOf k xs 0 with ⟨t, _ | a⟩
    · have hp : parse k l = (t, l == [42], 0, 0) := by unfold parse; rw [if_pos hk, hi']; simp only [hs]
      rw [hp]
      obtain ⟨h1, h2⟩ := setOf_good hlo hhi hle hw xs 0 t hsh hs
      refine .inl ⟨rfl, h2 (.inl hne), subset_of fun i h => ?_, rfl, rfl⟩
      rcases h1 i h with h | h
      · simp at h
      · exact (full_bit hlo hhi hle i).2 h
    · have hp : parse k l = (0, false, a, 2) := by unfold parse; rw [if_pos hk, hi']; simp only [hs]
      rw [hp]
      exact .inr ⟨rfl, rfl, .inr ⟨rfl, setOf_wrong_lt xs 0 t a hsh hs⟩⟩

theorem full_lt {k : Kind} (hk : checkB k = true) : full k < 18446744073709551616 := by
  obtain ⟨lo, hi, hlo, hhi, hle, h62, hw⟩ := check_nat hk
  rw [show (18446744073709551616 : Nat) = 2 ^ 64 from rfl]
  apply Nat.lt_pow_two_of_testBit
  intro i h
  cases hb : (full k).testBit i with
  | false => rfl
  | true => have := (full_bit hlo hhi hle i).1 hb; omega
theorem parse_lt {k : Kind} (hk : checkB k = true) (l : Bytes) : (parse k l).1 < 18446744073709551616 := by
  rcases parse_facts hk l with ⟨_, _, h, _⟩ | ⟨h, _⟩
  · rw [← h]; exact Nat.lt_of_le_of_lt Nat.and_le_right (full_lt hk)
  · rw [h]; decide
theorem parse_lt' (k : Kind) (l : Bytes) : (parse k l).1 < 18446744073709551616 := by
  cases hk : checkB k with
  | true => exact parse_lt hk l
  | false => unfold parse; rw [if_neg (by rw [hk]; simp)]; show 0 < _; decide
end Fs
end Go.Proofs.YtfhcnndleaoobaaGreatDoor
