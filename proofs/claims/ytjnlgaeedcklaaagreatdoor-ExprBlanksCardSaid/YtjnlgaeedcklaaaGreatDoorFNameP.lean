/-
  The program's text: Full, Name.
-/
import Derived.Test.YtjnlgaeedcklaaaGreatDoorFPrintR2
import Derived.Test.YtjnlgaeedcklaaaGreatDoorFRef8
set_option linter.unusedVariables false
set_option linter.unusedSimpArgs false
namespace Go.Proofs.YtjnlgaeedcklaaaGreatDoor
open Go.RowKit

set_option maxHeartbeats 1000000 in
theorem field_Full (w : World) (lo hi : Int) (A : Option Addr) (c : Nat) (l : List ByteArray) (week : Bool) (h1 : -9223372036854775808 ≤ lo) (h2 : lo ≤ 9223372036854775807) (h3 : -9223372036854775808 ≤ hi) (h4 : hi ≤ 9223372036854775807)
    (hn : l.length ≤ 1000) (hcc : l.length ≤ c) (hA : Names w w.heap.size A l) (hsz : ∀ s ∈ l, s.size ≤ 1000) :
    Calls Tryz.prog 81 #[.agg #[.int .i64 lo, .int .i64 hi, .slice A l.length c, .bool week]] w fun e w' =>
      e = .returned (retFull (Fs.fullB (kind lo hi l week))) ∧ Below w.heap.size w w' := by
  have HA := Lib.hid hA; clear hA
  have hck : ∀ W, Names W W.heap.size A l → Calls Tryz.prog 63 #[.agg #[.int .i64 lo, .int .i64 hi, .slice A l.length c, .bool week]] W fun e w' => e = .returned (.int .i64 (Fs.errOf (Fs.checkB (kind lo hi l week)))) ∧ Below W.heap.size W w' := fun W hW => field_Check lo hi A c l week W h1 h2 h3 h4 hn hcc hW hsz
  generalize hr : Fs.fullB (kind lo hi l week) = r
  cases hb : Fs.checkB (kind lo hi l week) with
  | false =>
    rw [Fs.fullB, hb] at hr
    simp only [Bool.false_eq_true, if_false] at hr
    subst hr
    rw [hb] at hck
    have HC := Lib.hid hck; clear hck hb hsz
    go_enter Tryz.func81, Tryz.ntmps81
    go_wp2_with (first | (go_at_call 63; ((with_reducible refine (HC.out _ (HA.out.alloc _)).mono ?_)); simp only [Fs.errOf]; rintro e w1 ⟨rfl, hb1⟩))
    go_ret2
    exact ⟨rfl, ((Below.refl _ _).alloc (Nat.le_refl _) _).trans (hb1.mono (by simp))⟩
  | true =>
    rw [Fs.fullB, hb] at hr
    simp only [if_true] at hr
    subst hr
    obtain ⟨b1, b2, b3, b4, b5⟩ := check_bounds hb
    obtain ⟨lon, rfl⟩ := Int.eq_ofNat_of_zero_le b1
    obtain ⟨hin, rfl⟩ := Int.eq_ofNat_of_zero_le b4
    rw [hb] at hck
    have HC := Lib.hid hck; clear hck hsz hb
    go_enter Tryz.func81, Tryz.ntmps81
    go_wp2_with (first | (go_at_call 63; ((with_reducible refine (HC.out _ (HA.out.alloc _)).mono ?_)); simp only [Fs.errOf]; rintro e w1 ⟨rfl, hb1⟩; obtain ⟨hc1, hf1⟩ := bcell hb1))
    have hR := bits_Range1 lon hin w1 b3.2.1 b3.1
    have HR := Lib.hid hR; clear hR
    go_at_call 119
    ((with_reducible refine (HR.out).mono ?_))
    rintro e w2 ⟨rfl, rfl⟩
    go_wp2
    go_ret2
    refine ⟨?_, ((Below.refl _ _).alloc (Nat.le_refl _) _).trans (hb1.mono (by simp))⟩
    rw [full_eq lon hin _ _ (by simpa using b3.1)]
    rfl
end Go.Proofs.YtjnlgaeedcklaaaGreatDoor
