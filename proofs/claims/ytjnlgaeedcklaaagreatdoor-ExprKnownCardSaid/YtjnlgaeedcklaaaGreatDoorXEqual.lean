/-
  expr.Equal: are two expressions the same.
-/
import Derived.Test.YtjnlgaeedcklaaaGreatDoorXCheck
set_option linter.unusedVariables false
set_option linter.unusedSimpArgs false
namespace Go.Proofs.YtjnlgaeedcklaaaGreatDoor
open Go.RowKit

set_option maxHeartbeats 4000000 in
theorem expr_Equal (x y : Xs.Ex) (w : World) : Calls Tryz.prog 29 #[exV x.second x.minute x.hour x.day x.month x.week x.anyDay x.anyWeek, exV y.second y.minute y.hour y.day y.month y.week y.anyDay y.anyWeek] w fun e w' => e = .returned (.bool (decide (x = y))) ∧ Below w.heap.size w w' := by
  obtain ⟨a0, a1, a2, a3, a4, a5, ad, aw⟩ := x
  obtain ⟨b0, b1, b2, b3, b4, b5, bd, bw⟩ := y
  go_enter Tryz.func29, Tryz.ntmps29
  go_wp2
  all_goals
    go_ret
    refine ⟨ret_bool ?_, ((Below.refl _ _).alloc (Nat.le_refl _) _).alloc (by simp) _⟩
    symm
    first
      | (rw [decide_eq_true_eq, Xs.Ex.mk.injEq]; refine ⟨by omega, by omega, by omega, by omega, by omega, by omega, by assumption, by assumption⟩)
      | (rw [decide_eq_false_iff_not]; simp only [Xs.Ex.mk.injEq]; rintro ⟨rfl, rfl, rfl, rfl, rfl, rfl, rfl, rfl⟩; simp_all; done)
end Go.Proofs.YtjnlgaeedcklaaaGreatDoor
