/-
  The program's text: the next number of a set.
-/
import Derived.Test.YtjnlgaeedcklaaaGreatDoorFTabs
import Derived.Test.YtjnlgaeedcklaaaGreatDoorFList
import Derived.Test.YtjnlgaeedcklaaaGreatDoorFBack
import Derived.Lib.TrailingZeros
set_option linter.unusedVariables false
set_option linter.unusedSimpArgs false
namespace Go.Proofs.YtjnlgaeedcklaaaGreatDoor
open Go.RowKit

/-- The smallest number of a set from one on. -/
def nextOf (s f : Nat) : Option Nat := (Fs.elsOf s 64).find? (fun i => decide (f ≤ i))

theorem nextOf_some {s f x : Nat} : nextOf s f = some x ↔ (s.testBit x = true ∧ f ≤ x ∧ x < 64 ∧ ∀ j, j < x → f ≤ j → s.testBit j = false) := by
  unfold nextOf Fs.elsOf
  rw [List.find?_filter, List.find?_range_eq_some]
  simp only [Bool.and_eq_true, decide_eq_true_eq, List.mem_range, Bool.not_eq_true', Bool.and_eq_false_iff, decide_eq_false_iff_not, Bool.not_eq_eq_eq_not, Bool.not_true]
  constructor
  · rintro ⟨⟨h1, h2⟩, h3, h4⟩
    refine ⟨h1, h2, h3, fun j hj hf => ?_⟩
    cases hb : s.testBit j with
    | false => rfl
    | true => exact absurd ⟨hb, hf⟩ (h4 j hj)
  · rintro ⟨h1, h2, h3, h4⟩
    refine ⟨⟨h1, h2⟩, h3, fun j hj h => ?_⟩
    have := h4 j hj h.2
    rw [h.1] at this; cases this
theorem nextOf_none {s f : Nat} : nextOf s f = none ↔ ∀ j, j < 64 → f ≤ j → s.testBit j = false := by
  unfold nextOf
  rw [List.find?_eq_none]
  constructor
  · intro h j hj hf
    cases hb : s.testBit j with
    | false => rfl
    | true => exact absurd (decide_eq_true hf) (by simpa using h j (Fs.elsOf_mem.2 ⟨hj, hb⟩))
  · intro h x hx
    obtain ⟨h1, h2⟩ := Fs.elsOf_mem.1 hx
    simp only [decide_eq_true_eq]
    intro hf
    rw [h x h1 hf] at h2; cases h2

theorem ctz_bits (x : Nat) (h0 : x ≠ 0) (h : x < 18446744073709551616) : x.testBit (Lib.ctz 64 x) = true ∧ Lib.ctz 64 x < 64 ∧ ∀ j, j < Lib.ctz 64 x → x.testBit j = false := by
  obtain ⟨m, hm, hk⟩ := Lib.ctzFrom_spec 64 x (by omega) h
  have e : Lib.ctz 64 x = Lib.ctzFrom 64 x := by unfold Lib.ctz; rw [if_neg h0]
  rw [e]
  generalize Lib.ctzFrom 64 x = k at hm hk
  refine ⟨?_, hk, fun j hj => ?_⟩
  · rw [hm, Nat.mul_comm, Nat.testBit_mul_two_pow]; simp
  · rw [hm, Nat.mul_comm, Nat.testBit_mul_two_pow]; simp; omega

/-- The low bits are taken away. -/
theorem high_bits (s f i : Nat) : (s / 2 ^ f * 2 ^ f).testBit i = (decide (f ≤ i) && s.testBit i) := by
  rw [Nat.testBit_mul_two_pow, Nat.testBit_div_two_pow]
  by_cases h : f ≤ i
  · simp [h]
  · simp [h]

theorem high_lt (s f : Nat) (hs : s < 18446744073709551616) : s / 2 ^ f * 2 ^ f < 18446744073709551616 := Nat.lt_of_le_of_lt (Nat.div_mul_le_self _ _) hs

theorem next_high (s f : Nat) (hs : s < 18446744073709551616) : nextOf s f = if s / 2 ^ f * 2 ^ f = 0 then none else some (Lib.ctz 64 (s / 2 ^ f * 2 ^ f)) := by
  have hb := high_bits s f
  have hl := high_lt s f hs
  generalize s / 2 ^ f * 2 ^ f = X at hb hl
  split
  · rename_i h0
    subst h0
    rw [nextOf_none]
    intro j _ hf
    have := hb j
    rw [Nat.zero_testBit] at this
    simpa [hf] using this
  · rename_i h0
    obtain ⟨h1, h2, h3⟩ := ctz_bits X h0 hl
    rw [nextOf_some]
    have h1' := hb (Lib.ctz 64 X)
    rw [h1] at h1'
    have h1'' := h1'.symm
    simp only [Bool.and_eq_true, decide_eq_true_eq] at h1''
    refine ⟨h1''.2, h1''.1, h2, fun j hj hf => ?_⟩
    have := hb j
    rw [h3 j hj] at this
    simpa [hf] using this.symm

theorem rd_tz (x : Nat) (hx : x < 18446744073709551616) (w : World) (hT : Tabs w) : Calls Tryz.prog 120 #[.int .u64 x] w fun e w' => e = .returned (.int .i64 (Lib.ctz 64 x)) ∧ w = w' :=
  (Any7.bits_TrailingZeros64 Tryz.lays7n29 x hx w (fun _ => hT.tz)).mono (by rintro e w' ⟨h1, h2⟩; exact ⟨h1, h2.symm⟩)

def retNext : Option Nat → Value
  | some x => .tuple #[.int .i64 x, .bool true]
  | none => .tuple #[.int .i64 0, .bool false]

set_option maxHeartbeats 1000000 in
theorem bits_Next (s f : Nat) (w : World) (hs : s < 18446744073709551616) (hf : f ≤ 1000) (hT : Tabs w) :
    Calls Tryz.prog 121 #[.int .u64 s, .int .i64 f] w fun e w' => e = .returned (retNext (nextOf s f)) ∧ w = w' := by
  have HT := Lib.hid hT; clear hT
  by_cases h64 : 63 < f
  · have hn : nextOf s f = none := nextOf_none.2 (fun j h1 h2 => by omega)
    rw [hn]
    clear hn
    go_enter Tryz.func121, Tryz.ntmps121
    go_wp2
    go_ret2
    exact ⟨rfl, rfl⟩
  · have hnx := next_high s f hs
    have hl := high_lt s f hs
    generalize hr : nextOf s f = r at hnx
    have Hnx := Lib.hid hnx
    have htz := fun W h => rd_tz (s / 2 ^ f * 2 ^ f) hl W h
    have Htz := Lib.hid htz
    have Hl := Lib.hid hl
    clear hnx htz hr hl
    have e1 : IntKind.u64.wrap ((s : Int) / 2 ^ f * 2 ^ f) = ((s / 2 ^ f * 2 ^ f : Nat) : Int) := by
      rw [IntKind.wrap_u64]
      have : ((s : Int) / 2 ^ f * 2 ^ f) = ((s / 2 ^ f * 2 ^ f : Nat) : Int) := by simp
      rw [this]
      have := Hl.out
      generalize s / 2 ^ f * 2 ^ f = X at this ⊢
      omega
    by_cases h0 : s / 2 ^ f * 2 ^ f = 0
    · have e2 : (IntKind.u64.wrap ((s : Int) / 2 ^ f * 2 ^ f) == 0) = true := by rw [e1, h0]; rfl
      have e3 := Hnx.out
      rw [if_pos h0] at e3
      subst e3
      clear e1 h0
      go_enter Tryz.func121, Tryz.ntmps121
      go_wp2_with fail
      go_ret2
      exact ⟨rfl, rfl⟩
    · have e2 : (IntKind.u64.wrap ((s : Int) / 2 ^ f * 2 ^ f) == 0) = false := by rw [e1, beq_eq_false_iff_ne]; omega
      have e3 := Hnx.out
      rw [if_neg h0] at e3
      subst e3
      have E1 := Lib.hid e1
      clear e1 h0
      go_enter Tryz.func121, Tryz.ntmps121
      go_wp2_with fail
      rw [E1.out]
      go_wp2_with (go_at_call 120; ((with_reducible refine (Htz.out _ HT.out).mono ?_)); rintro e w1 ⟨rfl, rfl⟩)
      go_ret2
      exact ⟨rfl, rfl⟩

end Go.Proofs.YtjnlgaeedcklaaaGreatDoor
