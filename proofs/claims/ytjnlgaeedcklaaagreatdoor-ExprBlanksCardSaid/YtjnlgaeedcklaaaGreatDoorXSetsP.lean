/-
  Valid expressions that are made of numbers. No program in sight.
-/
import Derived.Test.YtjnlgaeedcklaaaGreatDoorXSec
set_option linter.unusedVariables false
set_option linter.unusedSimpArgs false
namespace Go.Proofs.YtjnlgaeedcklaaaGreatDoor

/-- A set that is cut to the numbers of its field; full if it would be empty. -/
def cutX (i s : Nat) : Nat := if s &&& Fs.full (KX i) = 0 then Fs.full (KX i) else s &&& Fs.full (KX i)
theorem kx_pos : ∀ i, i < 6 → Fs.full (KX i) ≠ 0 := six_cases (by decide +kernel) (by decide +kernel) (by decide +kernel) (by decide +kernel) (by decide +kernel) (by decide +kernel)
theorem cutX_good (i s : Nat) (hi : i < 6) : cutX i s ≠ 0 ∧ cutX i s &&& Fs.full (KX i) = cutX i s := by
  unfold cutX
  split
  · exact ⟨kx_pos i hi, Nat.and_self _⟩
  · rename_i h
    exact ⟨h, by rw [Nat.and_assoc, Nat.and_self]⟩
theorem cutX_lt (i s : Nat) (hi : i < 6) : cutX i s < 18446744073709551616 := by
  rw [← (cutX_good i s hi).2]
  exact Nat.lt_of_le_of_lt Nat.and_le_right (kx_lt i hi)

/-- The expression of six numbers and two stars. -/
def madeX (l : Nat → Nat) (ad aw : Bool) : Xs.Ex :=
  ⟨cutX 0 (l 0), cutX 1 (l 1), cutX 2 (l 2), if ad then Fs.full (KX 3) else cutX 3 (l 3), cutX 4 (l 4), if aw then Fs.full (KX 5) else cutX 5 (l 5), ad, aw⟩

theorem made_check (l : Nat → Nat) (ad aw : Bool) : Xs.checkB KX (madeX l ad aw) = true := by
  have g := fun i (hi : i < 6) => cutX_good i (l i) hi
  have f3 : Fs.full (KX 3) ≠ 0 ∧ Fs.full (KX 3) &&& Fs.full (KX 3) = Fs.full (KX 3) := ⟨kx_pos 3 (by decide), Nat.and_self _⟩
  have f5 : Fs.full (KX 5) ≠ 0 ∧ Fs.full (KX 5) &&& Fs.full (KX 5) = Fs.full (KX 5) := ⟨kx_pos 5 (by decide), Nat.and_self _⟩
  rw [checkX_iff]
  refine ⟨six_cases (g 0 (by decide)) (g 1 (by decide)) (g 2 (by decide)) ?_ (g 4 (by decide)) ?_, ?_, ?_⟩
  · show (if ad then Fs.full (KX 3) else cutX 3 (l 3)) ≠ 0 ∧ (if ad then Fs.full (KX 3) else cutX 3 (l 3)) &&& Fs.full (KX 3) = (if ad then Fs.full (KX 3) else cutX 3 (l 3))
    cases ad
    · exact g 3 (by decide)
    · exact f3
  · show (if aw then Fs.full (KX 5) else cutX 5 (l 5)) ≠ 0 ∧ (if aw then Fs.full (KX 5) else cutX 5 (l 5)) &&& Fs.full (KX 5) = (if aw then Fs.full (KX 5) else cutX 5 (l 5))
    cases aw
    · exact g 5 (by decide)
    · exact f5
  · intro h
    show (if ad then Fs.full (KX 3) else cutX 3 (l 3)) = _
    rw [show ad = true from h]; rfl
  · intro h
    show (if aw then Fs.full (KX 5) else cutX 5 (l 5)) = _
    rw [show aw = true from h]; rfl

theorem kx_full0 : Fs.full (KX 0) = 2 ^ 60 - 1 := by decide +kernel
theorem kx_full1 : Fs.full (KX 1) = 2 ^ 60 - 1 := by decide +kernel
theorem kx_full2 : Fs.full (KX 2) = 2 ^ 24 - 1 := by decide +kernel
theorem kx_full4 : Fs.full (KX 4) = 2 ^ 13 - 2 := by decide +kernel

theorem cnt_bounds {s m n : Nat} (h0 : s ≠ 0) (h : s &&& (2 ^ m - 1) = s) (hm : m + n = 64) : 1 ≤ Xs.cnt 64 s ∧ Xs.cnt 64 s ≤ m := by
  have hp : 0 < 2 ^ m := Nat.pos_of_ne_zero (by simp)
  have hs : s < 2 ^ m := by
    have := Nat.and_le_right (n := s) (m := 2 ^ m - 1)
    rw [h] at this
    omega
  rw [← hm, Xs.cnt_small m n s hs]
  exact ⟨Xs.cnt_pos m s hs h0, Xs.cnt_le m s⟩

/-- How often a valid expression matches: from once to 86,400 times. -/
theorem sec_bounds {x : Xs.Ex} (h : Xs.checkB KX x = true) : 1 ≤ secX x ∧ secX x ≤ 86400 := by
  have g := ((checkX_iff x).1 h).1
  have g0 : x.second ≠ 0 ∧ x.second &&& (2 ^ 60 - 1) = x.second := kx_full0 ▸ g 0 (by decide)
  have g1 : x.minute ≠ 0 ∧ x.minute &&& (2 ^ 60 - 1) = x.minute := kx_full1 ▸ g 1 (by decide)
  have g2 : x.hour ≠ 0 ∧ x.hour &&& (2 ^ 24 - 1) = x.hour := kx_full2 ▸ g 2 (by decide)
  obtain ⟨a1, a2⟩ := cnt_bounds (n := 4) g0.1 g0.2 (by decide)
  obtain ⟨b1, b2⟩ := cnt_bounds (n := 4) g1.1 g1.2 (by decide)
  obtain ⟨c1, c2⟩ := cnt_bounds (n := 40) g2.1 g2.2 (by decide)
  unfold secX
  exact ⟨Nat.mul_le_mul (Nat.mul_le_mul a1 b1) c1, Nat.mul_le_mul (Nat.mul_le_mul a2 b2) c2⟩
end Go.Proofs.YtjnlgaeedcklaaaGreatDoor
