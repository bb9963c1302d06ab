/-
  Sets of small numbers (layer 4): Inside, Has, Next, the ranges of step 1.
-/
import Derived.Test.YtjnlgaeedcklaaaGreatDoorFBase
import Derived.Shelf.Spec.TrailingZeros
set_option linter.unusedVariables false
set_option linter.unusedSimpArgs false
namespace Go.Proofs.YtjnlgaeedcklaaaGreatDoor
open Go.RowKit

abbrev U64 : Nat := 18446744073709551616

theorem bits_Inside (a b : Nat) (w : World) (ha : a < 18446744073709551616) (hb : b < 18446744073709551616) :
    Calls Tryz.prog 55 #[.int .u64 a, .int .u64 b] w fun e w' => e = .returned (.bool (decide (a &&& (18446744073709551615 - b) = 0))) ∧ w = w' := by
  have h1 := u64_andNot_nat a b ha hb
  have H1 := Lib.hid h1; clear h1
  go_enter Tryz.func55, Tryz.ntmps55
  go_wp2
  go_ret
  have h1 := H1.out
  refine ⟨ret_bool ?_, rfl⟩
  rw [Bool.eq_iff_iff, beq_iff_eq, decide_eq_true_eq, h1]
  omega

theorem ref_Has (a : Nat) (v : Int) (w : World) (ha : a < 18446744073709551616) :
    Calls Tryz.prog 147 #[.int .u64 a, .int .i64 v] w fun e w' => e = .returned (.bool (Fs.hasB a v)) ∧ w = w' := by
  by_cases h0 : 0 ≤ v ∧ v ≤ 63
  · obtain ⟨h0, h1⟩ := h0
    obtain ⟨n, rfl⟩ := Int.eq_ofNat_of_zero_le h0
    have hd : a / 2 ^ n < 18446744073709551616 := Nat.lt_of_le_of_lt (Nat.div_le_self _ _) ha
    have h2 : bits .and .u64 ((a / 2 ^ n : Nat) : Int) 1 = ((a / 2 ^ n &&& 1 : Nat) : Int) := u64_and_nat _ 1 hd (by omega)
    have e1 : (decide ((a / 2 ^ n &&& 1) = 1)) = Fs.hasB a n := by
      have h1' : (n : Int) ≤ 63 := h1
      simp only [Fs.hasB, h1', Int.natCast_nonneg, decide_true, Bool.true_and, Int.toNat_natCast]
      rw [Nat.testBit_eq_decide_div_mod_eq, nat_mask1]
    have H2 := Lib.hid h2; clear h2
    have E1 := Lib.hid e1; clear e1
    go_enter Tryz.func147, Tryz.ntmps147
    go_wp2
    all_goals (first | (exfalso; omega) | skip)
    go_ret
    refine ⟨ret_bool ?_, rfl⟩
    have h2 := H2.out
    rw [← E1.out, Bool.eq_iff_iff]
    have h3 : (((a / 2 ^ n : Nat) : Int)) = (a : Int) / 2 ^ n := by simp
    rw [← h3, h2]
    simp
    omega
  · have h1 : Fs.hasB a v = false := by
      unfold Fs.hasB
      by_cases h : 0 ≤ v <;> by_cases h' : v ≤ 63 <;> simp [h, h'] <;> omega
    have H1 := Lib.hid h1; clear h1
    by_cases h : 0 ≤ v
    all_goals
      go_enter Tryz.func147, Tryz.ntmps147
      go_wp2
      all_goals (first | (exfalso; omega) | (go_ret; exact ⟨ret_bool H1.out.symm, rfl⟩))

/-! ### The ranges of step 1 -/
theorem pow_lt {v : Nat} (h : v < 64) : (2 : Nat) ^ v < 18446744073709551616 := by
  have : (2 : Nat) ^ v < 2 ^ 64 := Nat.pow_lt_pow_right (by omega) h
  exact this
theorem or_lt {a b : Nat} (ha : a < 18446744073709551616) (hb : b < 18446744073709551616) : a ||| b < 18446744073709551616 :=
  Nat.or_lt_two_pow (n := 64) ha hb
theorem fill_lt (lo n : Nat) (h : lo + n ≤ 64) : Fs.fill lo n < 18446744073709551616 := by
  induction n with
  | zero => simp [Fs.fill]
  | succ n ih => exact or_lt (ih (by omega)) (pow_lt (by omega))
/-- One number more, as the walk spells it. -/
theorem or_bit (s v : Nat) (hs : s < 18446744073709551616) (hv : v < 64) : bits .or .u64 (s : Int) (IntKind.u64.wrap (2 ^ v)) = ((s ||| 2 ^ v : Nat) : Int) := by
  have h := pow_lt hv
  have e : IntKind.u64.wrap ((2 : Int) ^ v) = ((2 ^ v : Nat) : Int) := by
    rw [IntKind.wrap_u64]
    have : ((2 : Int) ^ v) = ((2 ^ v : Nat) : Int) := by simp
    rw [this]; generalize (2 : Nat) ^ v = p at h ⊢; omega
  rw [e, u64_or_nat s _ hs h]

theorem bits_inside_yes (v : Int) (w : World) (h0 : 0 ≤ v) (h1 : v < 64) : Calls Tryz.prog 89 #[.int .i64 v] w fun e w' => e = .returned (.bool true) ∧ w = w' := by
  go_enter Tryz.func89, Tryz.ntmps89
  go_wp2
  go_ret
  exact ⟨rfl, rfl⟩

theorem bits_Range1 (a n : Nat) (w : World) (hn : n ≤ 62) (ha : a ≤ n) :
    Calls Tryz.prog 119 #[.int .i64 a, .int .i64 n, .int .i64 1] w fun e w' => e = .returned (.tuple #[.int .u64 (Fs.fill a (n + 1 - a)), .int .i64 0]) ∧ w = w' := by
  go_enter Tryz.func119, Tryz.ntmps119
  go_wp2_with (go_at_call 89; refine (bits_inside_yes _ _ (by omega) (by omega)).mono ?_; rintro e w' ⟨rfl, rfl⟩)
  go_loop [8, 9] (fun s v => ∃ k : Nat, a + k ≤ n + 1 ∧ s = .int .u64 (Fs.fill a k) ∧ v = .int .i64 (a + k : Nat)) (fun _ v => n + 1 - (intOf v).toNat)
  case atStart => exact ⟨0, by omega, rfl, rfl⟩
  case round =>
    obtain ⟨k, hk, rfl, rfl⟩ := hrel
    by_cases hlt : a + k ≤ n
    · go_wp2
      go_round
      case rel => exact ⟨k + 1, by omega, by rw [or_bit _ _ (fill_lt _ _ (by omega)) (by omega)]; rfl, by go_num⟩
      case measure => simp [intOf]; omega
    · go_wp2
      go_ret2
      obtain rfl : k = n + 1 - a := by omega
      exact ⟨rfl, rfl⟩

theorem ref_Range1 (a n : Nat) (w : World) (hn : n ≤ 62) (ha : a ≤ n) :
    Calls Tryz.prog 124 #[.int .i64 a, .int .i64 n, .int .i64 1] w fun e w' => e = .returned (.tuple #[.int .u64 (Fs.fill a (n + 1 - a)), .int .i64 0]) ∧ w = w' := by
  go_enter Tryz.func124, Tryz.ntmps124
  go_wp2
  go_loop [8, 9] (fun s v => ∃ k : Nat, a + k ≤ n + 1 ∧ s = .int .u64 (Fs.fill a k) ∧ v = .int .i64 (a + k : Nat)) (fun _ v => n + 1 - (intOf v).toNat)
  case atStart => exact ⟨0, by omega, rfl, rfl⟩
  case round =>
    obtain ⟨k, hk, rfl, rfl⟩ := hrel
    by_cases hlt : a + k ≤ n
    · go_wp2
      go_round
      case rel => exact ⟨k + 1, by omega, by rw [or_bit _ _ (fill_lt _ _ (by omega)) (by omega)]; rfl, by go_num⟩
      case measure => simp [intOf]; omega
    · go_wp2
      go_ret2
      obtain rfl : k = n + 1 - a := by omega
      exact ⟨rfl, rfl⟩

end Go.Proofs.YtjnlgaeedcklaaaGreatDoor
