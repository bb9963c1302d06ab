/-
  The examples of the chapter on expressions.
-/
import Derived.Test.YtjnlgaeedcklaaaGreatDoorXNormal
set_option linter.unusedVariables false
set_option linter.unusedSimpArgs false
namespace Go.Proofs.YtjnlgaeedcklaaaGreatDoor
open Go.RowKit

abbrev ex1 : Xs.Ex := ⟨1, 35185445863425, 261632, 4294967294, 8190, 62, true, false⟩
theorem works1 : Xs.parse KX [42, 47, 49, 53, 32, 57, 45, 49, 55, 32, 42, 32, 42, 32, 49, 45, 53] = (ex1, 0, 0) := by decide +kernel
theorem works2 : Xs.parse KX [48, 32, 50, 52, 32, 42, 32, 42, 32, 42] = (Xs.Ex.zero, 2, 2) := by decide +kernel
theorem works3 : Xs.normalX KX [48, 32, 53, 32, 48, 32, 42, 32, 42, 32, 42] = ([53, 32, 48, 32, 42, 32, 42, 32, 42], 0, 0) := by decide +kernel
theorem works4 : Xs.checkB KX ex1 = true ∧ secX ex1 = 36 := by decide +kernel

set_option maxHeartbeats 2000000 in
theorem law_works (w : World) (hX : TabX w) : Calls Tryz.prog 12 #[] w fun e w' => e = .returned (.bool true) ∧ Below w.heap.size w w' := by
  have HX := Lib.hid hX; clear hX
  have P1 : Hid (∀ W, TabX W → Calls Tryz.prog 13 #[.string { data := #[42, 47, 49, 53, 32, 57, 45, 49, 55, 32, 42, 32, 42, 32, 49, 45, 53] }] W fun e w' => e = .returned (.tuple #[exV 1 35185445863425 261632 4294967294 8190 62 true false, .int .i64 0, .int .i64 0]) ∧ Below W.heap.size W w') := Lib.hid fun W h => by
    have := expr_Parse { data := #[42, 47, 49, 53, 32, 57, 45, 49, 55, 32, 42, 32, 42, 32, 49, 45, 53] } (by decide) W h
    rw [show Xs.parse KX (ByteArray.mk #[42, 47, 49, 53, 32, 57, 45, 49, 55, 32, 42, 32, 42, 32, 49, 45, 53]).data.toList = (ex1, 0, 0) from works1] at this
    exact this
  have P2 : Hid (∀ W, TabX W → Calls Tryz.prog 13 #[.string { data := #[48, 32, 50, 52, 32, 42, 32, 42, 32, 42] }] W fun e w' => e = .returned (.tuple #[exV 0 0 0 0 0 0 false false, .int .i64 2, .int .i64 2]) ∧ Below W.heap.size W w') := Lib.hid fun W h => by
    have := expr_Parse { data := #[48, 32, 50, 52, 32, 42, 32, 42, 32, 42] } (by decide) W h
    rw [show Xs.parse KX (ByteArray.mk #[48, 32, 50, 52, 32, 42, 32, 42, 32, 42]).data.toList = (Xs.Ex.zero, 2, 2) from works2] at this
    exact this
  have P3 : Hid (∀ W, TabX W → Calls Tryz.prog 15 #[.string { data := #[48, 32, 53, 32, 48, 32, 42, 32, 42, 32, 42] }] W fun e w' => e = .returned (.tuple #[.string { data := #[53, 32, 48, 32, 42, 32, 42, 32, 42] }, .int .i64 0, .int .i64 0]) ∧ Below W.heap.size W w') := Lib.hid fun W h => by
    have := expr_Normal { data := #[48, 32, 53, 32, 48, 32, 42, 32, 42, 32, 42] } (by decide) W h
    rw [show Xs.normalX KX (ByteArray.mk #[48, 32, 53, 32, 48, 32, 42, 32, 42, 32, 42]).data.toList = ([53, 32, 48, 32, 42, 32, 42, 32, 42], 0, 0) from works3] at this
    exact this
  have P4 : Hid (∀ W, TabX W → Calls Tryz.prog 21 #[.agg #[.int .u64 1, .int .u64 35185445863425, .int .u64 261632, .int .u64 4294967294, .int .u64 8190, .int .u64 62, .bool true, .bool false]] W fun e w' => e = .returned (.tuple #[.int .i64 36, .int .i64 0]) ∧ Below W.heap.size W w') := Lib.hid fun W h => by
    have := expr_Seconds ex1 W (small_of_check works4.1) h.tabs
    rw [works4.1, if_pos rfl, works4.2, chk_ok works4.1] at this
    exact this
  go_enter Tryz.func12, Tryz.ntmps12
  go_wp2_with (first
    | (go_at_call 13; (with_reducible refine (P1.out _ HX.out).mono ?_); clear P1; rintro e w1 ⟨rfl, hb1⟩; have X1 := Lib.hid (HX.out.grow hb1); have B1 := Lib.hid hb1; clear hb1)
    | (go_at_call 13; (with_reducible refine (P2.out _ (X1.out.alloc _)).mono ?_); clear P2; rintro e w2 ⟨rfl, hb2⟩; have X2 := Lib.hid ((X1.out.alloc _).grow hb2); have K2 := Lib.hid ((Blk.new w1 25 (exC 1 35185445863425 261632 4294967294 8190 62 true false)).below hb2 (by simp)); have B2 := Lib.hid ((B1.out.alloc B1.out.size _).trans (hb2.mono (Nat.le_trans B1.out.size (by simp)))); clear hb2)
    | (go_at_call 15; (with_reducible refine (P3.out _ (X2.out.alloc _)).mono ?_); clear P3; rintro e w3 ⟨rfl, hb3⟩; have X3 := Lib.hid ((X2.out.alloc _).grow hb3); have K3 := Lib.hid ((K2.out.alloc _).below hb3 (K2.out.alloc _).lt); obtain ⟨kc3, kf3⟩ := K3.out.facts; have B3 := Lib.hid ((B2.out.alloc B2.out.size _).trans (hb3.mono (Nat.le_trans B2.out.size (by simp)))); clear hb3)
    | (go_at_call 21; (with_reducible refine (P4.out _ X3.out).mono ?_); clear P4; rintro e w4 ⟨rfl, hb4⟩; obtain ⟨kc4, kf4⟩ := (K3.out.below hb4 K3.out.lt).facts; have B4 := Lib.hid (B3.out.trans (hb4.mono B3.out.size)); clear hb4))
  go_ret
  exact ⟨rfl, B4.out⟩
end Go.Proofs.YtjnlgaeedcklaaaGreatDoor
