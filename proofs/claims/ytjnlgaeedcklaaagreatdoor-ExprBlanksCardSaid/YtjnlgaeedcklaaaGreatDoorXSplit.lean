/-
  The words of a text with blanks between them, as strings.Split has them. No program in sight.
-/
import Derived.Test.YtjnlgaeedcklaaaGreatDoorXPrint
import Derived.Lib.Split
import Derived.Lib.SplitLaws
import Derived.Lib.FieldsLaws
set_option linter.unusedVariables false
set_option linter.unusedSimpArgs false
namespace Go.Proofs.YtjnlgaeedcklaaaGreatDoor
open Go.RowKit

theorem indexByte_app (r : List UInt8) : ∀ t : List UInt8, (32 : UInt8) ∉ t → Lib.indexByte (t ++ 32 :: r) 32 = t.length := by
  intro t
  induction t with
  | nil => intro _; simp [Lib.indexByte]
  | cons c t ih =>
    intro h
    have h1 : ¬ (c == 32) = true := by rw [beq_iff_eq]; exact fun e => h (by rw [e]; exact List.mem_cons_self ..)
    have h2 := ih (fun hm => h (List.mem_cons_of_mem _ hm))
    rw [List.cons_append, Lib.indexByte, if_neg h1, h2, if_neg (by rw [beq_iff_eq]; omega), List.length_cons]
    omega

theorem split_join : ∀ ts : List (List UInt8), ts ≠ [] → (∀ t ∈ ts, (32 : UInt8) ∉ t) → Lib.count (Xs.joinS ts) [32] = ts.length - 1 ∧ Lib.splitK [32] 0 (ts.length - 1) (Xs.joinS ts) = ts := by
  intro ts
  induction ts with
  | nil => intro h; exact absurd rfl h
  | cons t ts ih =>
    intro _ h
    have h1 := h t (by simp)
    rcases ts with _ | ⟨u, ts⟩
    · refine ⟨?_, rfl⟩
      rw [Lib.count_one]
      exact List.count_eq_zero.2 h1
    · obtain ⟨h2, h3⟩ := ih (by simp) fun v hv => h v (List.mem_cons_of_mem _ hv)
      have e : Xs.joinS (t :: u :: ts) = t ++ 32 :: Xs.joinS (u :: ts) := rfl
      rw [Lib.count_one] at h2
      constructor
      · rw [Lib.count_one, e, List.count_append, List.count_cons, List.count_eq_zero.2 h1, h2]
        simp
      · have hi : Lib.index (t ++ 32 :: Xs.joinS (u :: ts)) [32] = t.length := by rw [Lib.index_one, indexByte_app _ _ h1]
        rw [e, show (t :: u :: ts).length - 1 = ((u :: ts).length - 1) + 1 by simp, Lib.splitK, hi, if_neg (by rw [beq_iff_eq]; omega)]
        rw [show ((t.length : Int)).toNat = t.length from rfl, Nat.add_zero, List.take_left, List.length_singleton]
        rw [show (t ++ 32 :: Xs.joinS (u :: ts)).drop (t.length + 1) = Xs.joinS (u :: ts) by rw [← List.drop_drop, List.drop_left]; rfl, h3]

theorem texts_no32 {x : Xs.Ex} (hc : Xs.checkB KX x = true) : ∀ t ∈ Xs.texts KX x, (32 : UInt8) ∉ t := by
  intro t ht hm
  have h := List.all_eq_true.1 (Xs.texts_good kinds_ok hc t ht).1 32 hm
  exact absurd h (by decide)
theorem texts_ne (x : Xs.Ex) : Xs.texts KX x ≠ [] := by
  intro h
  have := Xs.texts_len KX x
  rw [h] at this
  split at this <;> cases this

/-- The number of blanks in an expression's text, and its words. -/
theorem split_texts {x : Xs.Ex} (hc : Xs.checkB KX x = true) : Lib.countB (strOf (Xs.joinS (Xs.texts KX x))) ⟨#[32]⟩ + 1 = (Xs.texts KX x).length ∧
    ((Lib.splitB ⟨#[32]⟩ 0 (Lib.countB (strOf (Xs.joinS (Xs.texts KX x))) ⟨#[32]⟩) (strOf (Xs.joinS (Xs.texts KX x)))).map Value.string) = (Xs.texts KX x).map fun t => Value.string (strOf t) := by
  obtain ⟨h1, h2⟩ := split_join _ (texts_ne x) (texts_no32 hc)
  have hb : Lib.countB (strOf (Xs.joinS (Xs.texts KX x))) ⟨#[32]⟩ = (Xs.texts KX x).length - 1 := h1
  have hp := List.length_pos_iff.2 (texts_ne x)
  refine ⟨by omega, ?_⟩
  rw [hb]
  refine Lib.pieces_eq ?_
  rw [Lib.splitB_data]
  exact h2
end Go.Proofs.YtjnlgaeedcklaaaGreatDoor
