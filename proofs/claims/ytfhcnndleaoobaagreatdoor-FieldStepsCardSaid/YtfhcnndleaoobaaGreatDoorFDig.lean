/-
  digits: a number from 0 to 99 in digits, as the laws write it.
-/
import Derived.Test.YtfhcnndleaoobaaGreatDoorFBase
set_option linter.unusedVariables false
set_option linter.unusedSimpArgs false
namespace Go.Proofs.YtfhcnndleaoobaaGreatDoor
open Go.RowKit

/-- Two strings, one behind the other, as a region wants it laid. -/
theorem str_add (a b : ByteArray) (h : a.size + b.size ≤ 9223372036854775807) (W : World) : (Op.stringOp .add a b).run Tryz.prog W = .ok (.string (a ++ b)) W := by
  have hi : IntKind.i64.max = 9223372036854775807 := rfl
  unfold Op.stringOp
  simp only
  rw [if_neg (by rw [hi]; omega)]
  simp [Sem.run_pure]

set_option maxHeartbeats 400000 in
theorem law_digits (n : Nat) (w : World) (hn : n < 100) :
    Calls Tryz.prog 33 #[.int .i64 n] w fun e w' => e = .returned (.string ⟨(Fs.dig n).toArray⟩) ∧ Below w.heap.size w w' := by
  by_cases h : n < 10
  · have hd : Fs.dig n = [UInt8.ofNat (48 + n)] := by unfold Fs.dig; rw [if_pos h]
    have Hd := Lib.hid hd; clear hd
    have hcv := conv_one
    go_enter Tryz.func33, Tryz.ntmps33
    go_wp2
    go_ret
    refine ⟨?_, (Below.refl _ _).alloc (Nat.le_refl _) _⟩
    rw [Hd.out]
    have e : ((48 + (n : Int)) % 256).toNat = 48 + n := by omega
    first | rw [e] | (simp; done) | skip
    all_goals rfl
  · have hd : Fs.dig n = [UInt8.ofNat (48 + n / 10), UInt8.ofNat (48 + n % 10)] := by unfold Fs.dig; rw [if_neg h]
    have Hd := Lib.hid hd; clear hd
    have hcv := conv_two
    go_enter Tryz.func33, Tryz.ntmps33
    go_wp2
    go_ret
    refine ⟨?_, (Below.refl _ _).alloc (Nat.le_refl _) _⟩
    rw [Hd.out]
    have e : ((48 + (n : Int) / 10) % 256).toNat = 48 + n / 10 := by omega
    have e2 : ((48 + (n : Int) % 10) % 256).toNat = 48 + n % 10 := by omega
    first | rw [e, e2] | (simp; done) | skip
    all_goals rfl
end Go.Proofs.YtfhcnndleaoobaaGreatDoor
