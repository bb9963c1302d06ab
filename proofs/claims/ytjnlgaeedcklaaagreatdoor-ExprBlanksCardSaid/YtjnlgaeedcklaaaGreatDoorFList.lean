/-
  The document's text: the numbers of a set, in order.
-/
import Derived.Test.YtjnlgaeedcklaaaGreatDoorFBits
import Derived.Test.YtjnlgaeedcklaaaGreatDoorFBase
import Derived.Maps.AppendAt
set_option linter.unusedVariables false
set_option linter.unusedSimpArgs false
namespace Go.Proofs.YtjnlgaeedcklaaaGreatDoor
open Go.RowKit

/-- The numbers of a set from one on, up to a bound. -/
def els (s k : Nat) : List Nat := (List.range k).filter (s.testBit ·)

theorem els_succ_yes {s k : Nat} (h : s.testBit k = true) : els s (k + 1) = els s k ++ [k] := by simp [els, List.range_succ, h]
theorem els_succ_no {s k : Nat} (h : s.testBit k = false) : els s (k + 1) = els s k := by simp [els, List.range_succ, h]
theorem els_len (s k : Nat) : (els s k).length ≤ k := by
  have := List.length_filter_le (s.testBit ·) (List.range k)
  simpa [els] using this

theorem info_i64 : (Tryz.prog.info? 3).map (fun i => (i.zero, i.size, i.bytes)) = some (some (.int .i64 0), 1, 8) := by kernel_rfl

def ints (l : List Nat) : List Value := l.map fun n => Value.int .i64 (n : Nat)
theorem ints_len (l : List Nat) : (ints l).length = l.length := by simp [ints]

def ListL (s : Nat) (w : World) (v a : Value) (wr : World) : Prop :=
  ∃ k : Nat, k ≤ 64 ∧ a = .int .i64 k ∧ wr.ownsRow w.heap.size 3 1 v (els s k).length (ints (els s k)) ∧ Below w.heap.size w wr

theorem hasB_nat (s k : Nat) (h : k < 64) : Fs.hasB s k = s.testBit k := by simp [Fs.hasB]; omega

set_option maxRecDepth 100000 in
set_option maxHeartbeats 1000000 in
theorem ref_List (s : Nat) (w : World) (hs : s < 18446744073709551616) :
    Calls Tryz.prog 125 #[.int .u64 s] w fun e w' =>
      ∃ v, e = .returned v ∧ w'.ownsRow w.heap.size 3 1 v (els s 64).length (ints (els s 64)) ∧ Below w.heap.size w w' := by
  obtain ⟨i0, hi0, hz0, hz1, hz2⟩ := info_parts info_i64
  go_enter Tryz.func125, Tryz.ntmps125
  go_wp2
  go_loopw [3, 4] (fun v a wr => ListL s w v a wr) (fun _ a _ => 64 - (intOf a).toNat)
  case atStart => exact ⟨0, by omega, rfl, World.ownsRow_nil _ _ _ _, Below.refl _ _⟩
  case round =>
    obtain ⟨k, hk, rfl, hown, hbw⟩ := hrel
    have Hown := Lib.hid hown; clear hown
    have Hbw := Lib.hid hbw; clear hbw
    by_cases h64 : k < 64
    · have hb : Fs.hasB s k = s.testBit k := hasB_nat s k h64
      have hl := els_len s k
      cases ht : s.testBit k with
      | true =>
        have hH := ref_Has s k wr hs
        rw [hb, ht] at hH
        have HH := Lib.hid hH; clear hH hb
        have Ht := Lib.hid ht; clear ht
        go_wp2_with (first
          | (go_at_call 147; ((with_reducible refine (HH.out).mono ?_)); rintro e w1 ⟨rfl, rfl⟩)
          | (at_builtin; refine wpList_append_own _ rfl _ _ 87 rfl w.heap.size 3 i0 (.int .i64 0) 1 8 Tryz.underlying87 hi0 hz0 hz1 hz2 rfl (by decide) _ _ _ rfl (Hown.out.alloc _) ⟨wr.heap.size, 0, none⟩ 1 1 [.int .i64 k] rfl rfl (cell_one_new _ _ _) (by intro u hu; simp at hu; subst hu; rfl) (by unfold maxLen; omega) (by omega) (by have := Hbw.out.size; simp; omega) ?_; intro v1 w1 hown1 hgrow1 _))
        go_roundw
        case rel => 
          refine ⟨k + 1, by omega, by go_num, ?_, (Hbw.out.alloc Hbw.out.size _).grown hgrow1 (by have := Hbw.out.size; simp; omega) ?_⟩
          · rw [els_succ_yes Ht.out]; simpa [ints] using hown1
          · intro i hi; exact (Hown.out.lt i hi).1
        case measure => simp [intOf]; omega
      | false =>
        have hH := ref_Has s k wr hs
        rw [hb, ht] at hH
        have HH := Lib.hid hH; clear hH hb
        have Ht := Lib.hid ht; clear ht
        go_wp2_with (first
          | (go_at_call 147; ((with_reducible refine (HH.out).mono ?_)); rintro e w1 ⟨rfl, rfl⟩))
        go_roundw
        case rel => exact ⟨k + 1, by omega, by go_num, by rw [els_succ_no Ht.out]; exact Hown.out, Hbw.out⟩
        case measure => simp [intOf]; omega
    · obtain rfl : k = 64 := by omega
      go_wp2
      go_ret
      exact ⟨_, rfl, Hown.out, Hbw.out⟩

end Go.Proofs.YtjnlgaeedcklaaaGreatDoor
