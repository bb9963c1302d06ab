/-
  The document's text: a number from 0 to 99 in digits.
-/
import Derived.Test.YtjnlgaeedcklaaaGreatDoorFBase
import Derived.Test.YtjnlgaeedcklaaaGreatDoorFShelf
set_option linter.unusedVariables false
set_option linter.unusedSimpArgs false
namespace Go.Proofs.YtjnlgaeedcklaaaGreatDoor
open Go.RowKit

theorem decDigits_one : ∀ n : Nat, n < 10 → Lib.decDigits n = [UInt8.ofNat (48 + n)] := by decide +kernel
theorem decDigits_two : ∀ n : Nat, n < 100 → 10 ≤ n → Lib.decDigits n = [UInt8.ofNat (48 + n / 10), UInt8.ofNat (48 + n % 10)] := by decide +kernel

set_option maxHeartbeats 400000 in
theorem ref_decimal1 (n : Nat) (w : World) (hn : n < 10) :
    Calls Tryz.prog 88 #[.int .i64 n] w fun e w' => e = .returned (.string ⟨(Lib.decDigits n).toArray⟩) ∧ Below w.heap.size w w' := by
  have hd := decDigits_one n hn
  have Hd := Lib.hid hd; clear hd
  have hcv := conv_one
  go_enter Tryz.func88, Tryz.ntmps88
  go_wp2
  go_ret
  refine ⟨?_, (Below.refl _ _).alloc (Nat.le_refl _) _⟩
  rw [Hd.out]
  have e : ((48 + (n : Int)) % 256).toNat = 48 + n := by omega
  first | rw [e] | (simp; done) | skip
  all_goals rfl

set_option maxHeartbeats 400000 in
theorem ref_decimal (n : Nat) (w : World) (hn : n < 100) :
    Calls Tryz.prog 88 #[.int .i64 n] w fun e w' => e = .returned (.string ⟨(Lib.decDigits n).toArray⟩) ∧ Below w.heap.size w w' := by
  by_cases h : n < 10
  · exact ref_decimal1 n w h
  · have hd := decDigits_two n hn (by omega)
    have h1 := decDigits_one (n / 10) (by omega)
    have h2 := decDigits_one (n % 10) (by omega)
    have Hd := Lib.hid hd; clear hd
    have H1 := Lib.hid h1; clear h1
    have H2 := Lib.hid h2; clear h2
    have c1 : ∀ W : World, Calls Tryz.prog 88 #[.int .i64 ((n : Int) / 10)] W fun e w' => e = .returned (.string ⟨(Lib.decDigits (n / 10)).toArray⟩) ∧ Below W.heap.size W w' := fun W => by have := ref_decimal1 (n / 10) W (by omega); rwa [show ((n / 10 : Nat) : Int) = (n : Int) / 10 from by omega] at this
    have c2 : ∀ W : World, Calls Tryz.prog 88 #[.int .i64 ((n : Int) % 10)] W fun e w' => e = .returned (.string ⟨(Lib.decDigits (n % 10)).toArray⟩) ∧ Below W.heap.size W w' := fun W => by have := ref_decimal1 (n % 10) W (by omega); rwa [show ((n % 10 : Nat) : Int) = (n : Int) % 10 from by omega] at this
    have C1 := Lib.hid c1; clear c1
    have C2 := Lib.hid c2; clear c2
    have l1 : (Lib.decDigits (n / 10)).length = 1 := by rw [H1.out]; rfl
    have l2 : (Lib.decDigits (n % 10)).length = 1 := by rw [H2.out]; rfl
    go_enter Tryz.func88, Tryz.ntmps88
    go_wp2_with (first
      | (go_at_call 88; ((with_reducible refine (C1.out _).mono ?_)); rintro e w1 ⟨rfl, hb1⟩)
      | (go_at_call 88; ((with_reducible refine (C2.out _).mono ?_)); rintro e w2 ⟨rfl, hb2⟩))
    go_ret
    refine ⟨?_, hb1.trans (hb2.mono hb1.size)⟩
    rw [Hd.out, H1.out, H2.out]
    all_goals rfl

end Go.Proofs.YtjnlgaeedcklaaaGreatDoor
