/-
  The names of months and of days.
-/
import Derived.Test.YtfhcnndleaoobaaGreatDoorFPlain4
import Derived.Test.YtfhcnndleaoobaaGreatDoorFSixJoin
set_option linter.unusedVariables false
set_option linter.unusedSimpArgs false
namespace Go.Proofs.YtfhcnndleaoobaaGreatDoor
open Go.RowKit

theorem months_named : ∀ i : Nat, i < 12 → ∃ T, Fs.nameB (kind 1 12 monthsB false) ((1 + i : Nat) : Int) = (T, 0) ∧ T.length = 3 ∧ T.all Fs.letterB = true ∧ Fs.idxOf (kind 1 12 monthsB false).names (T.map Fs.up) = some i := by
  intro i hi
  refine ⟨(Fs.nameB (kind 1 12 monthsB false) ((1 + i : Nat) : Int)).1, ?_⟩
  have key : ∀ i : Fin 12, (Fs.nameB (kind 1 12 monthsB false) ((1 + i.val : Nat) : Int)).2 = 0 ∧ (Fs.nameB (kind 1 12 monthsB false) ((1 + i.val : Nat) : Int)).1.length = 3 ∧ (Fs.nameB (kind 1 12 monthsB false) ((1 + i.val : Nat) : Int)).1.all Fs.letterB = true ∧ Fs.idxOf (kind 1 12 monthsB false).names ((Fs.nameB (kind 1 12 monthsB false) ((1 + i.val : Nat) : Int)).1.map Fs.up) = some i.val := by decide +kernel
  obtain ⟨h1, h2⟩ := key ⟨i, hi⟩
  exact ⟨Prod.ext rfl h1, h2⟩
theorem days_named : ∀ i : Nat, i < 7 → ∃ T, Fs.nameB (kind 0 6 daysB true) ((0 + i : Nat) : Int) = (T, 0) ∧ T.length = 3 ∧ T.all Fs.letterB = true ∧ Fs.idxOf (kind 0 6 daysB true).names (T.map Fs.up) = some i := by
  intro i hi
  refine ⟨(Fs.nameB (kind 0 6 daysB true) ((0 + i : Nat) : Int)).1, ?_⟩
  have key : ∀ i : Fin 7, (Fs.nameB (kind 0 6 daysB true) ((0 + i.val : Nat) : Int)).2 = 0 ∧ (Fs.nameB (kind 0 6 daysB true) ((0 + i.val : Nat) : Int)).1.length = 3 ∧ (Fs.nameB (kind 0 6 daysB true) ((0 + i.val : Nat) : Int)).1.all Fs.letterB = true ∧ Fs.idxOf (kind 0 6 daysB true).names ((Fs.nameB (kind 0 6 daysB true) ((0 + i.val : Nat) : Int)).1.map Fs.up) = some i.val := by decide +kernel
  obtain ⟨h1, h2⟩ := key ⟨i, hi⟩
  exact ⟨Prod.ext rfl h1, h2⟩
end Go.Proofs.YtfhcnndleaoobaaGreatDoor
