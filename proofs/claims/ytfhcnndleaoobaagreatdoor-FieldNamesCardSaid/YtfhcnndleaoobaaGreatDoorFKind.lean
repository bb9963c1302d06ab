/-
  The laws' kinds: spec, ref, short, texts.
-/
import Derived.Test.YtfhcnndleaoobaaGreatDoorFTabs
import Derived.Lib.SmallJoins
import Derived.SliceStrings
import Derived.OpenShut
set_option linter.unusedVariables false
set_option linter.unusedSimpArgs false
namespace Go.Proofs.YtfhcnndleaoobaaGreatDoor
open Go.RowKit

set_option maxHeartbeats 1000000 in
theorem kind_spec (w : World) (lo hi : Int) (A : Option Addr) (n c : Nat) (week : Bool) :
    Calls Tryz.prog 16 #[.agg #[.int .i64 lo, .int .i64 hi, .slice A n c, .bool week]] w fun e w' => e = .returned (.agg #[.int .i64 lo, .int .i64 hi, .slice A n c, .bool week]) ∧ Below w.heap.size w w' := by
  go_enter Tryz.func16, Tryz.ntmps16
  go_wp2
  exact bodyPost_ret (v := .agg #[.int .i64 lo, .int .i64 hi, .slice A n c, .bool week]) (by simp [results, Tryz.results16, go_sem]) rfl ⟨rfl, ((Below.refl _ _).alloc (Nat.le_refl _) _).alloc (by simp) _⟩

set_option maxHeartbeats 1000000 in
theorem kind_ref (w : World) (lo hi : Int) (A : Option Addr) (n c : Nat) (week : Bool) :
    Calls Tryz.prog 18 #[.agg #[.int .i64 lo, .int .i64 hi, .slice A n c, .bool week]] w fun e w' => e = .returned (.agg #[.int .i64 lo, .int .i64 hi, .slice A n c, .bool week]) ∧ Below w.heap.size w w' := by
  go_enter Tryz.func18, Tryz.ntmps18
  go_wp2
  exact bodyPost_ret (v := .agg #[.int .i64 lo, .int .i64 hi, .slice A n c, .bool week]) (by simp [results, Tryz.results18, go_sem]) rfl ⟨rfl, ((Below.refl _ _).alloc (Nat.le_refl _) _).alloc (by simp) _⟩

def shortB (l : List ByteArray) : Bool := decide (l.length ≤ 70) && l.all fun s => decide (s.size ≤ 20)

set_option maxHeartbeats 1600000 in
theorem kind_short (w : World) (lo hi : Int) (A : Option Addr) (c : Nat) (l : List ByteArray) (week : Bool) (hcc : l.length ≤ c) (hm : c ≤ maxLen) (hA : Names w w.heap.size A l) (hsz : ∀ s ∈ l, s.size ≤ maxLen) :
    Calls Tryz.prog 13 #[.agg #[.int .i64 lo, .int .i64 hi, .slice A l.length c, .bool week]] w fun e w' => e = .returned (.bool (shortB l)) ∧ Below w.heap.size w w' := by
  have hm' : c ≤ 9223372036854775807 := hm
  have hA' : l.length = 0 ∨ ∃ b off, A = some ⟨b, off, none⟩ ∧ b < w.heap.size ∧ ∀ j, j < l.length → w.cell? ⟨b, off + j, none⟩ = some (.string (l.getD j ByteArray.empty)) := hA.imp (fun h => by rw [h]; rfl) id
  rcases hA' with h0 | ⟨b, off, rfl, hb, hc⟩
  · have hs : shortB l = true := by rw [List.length_eq_zero_iff.1 h0]; rfl
    rw [hs]
    clear hA hsz hs
    generalize l.length = n at *
    subst h0
    go_enter Tryz.func13, Tryz.ntmps13
    go_wp2
    go_loop [3] (fun i => i = .int .i64 0) (fun _ => 0)
    case atStart => rfl
    case round =>
      obtain rfl := hrel
      go_wp2
      go_ret
      exact ⟨rfl, (Below.refl _ _).alloc (Nat.le_refl _) _⟩
  · have hsz' : ∀ j, j < l.length → (l.getD j ByteArray.empty).size ≤ 9223372036854775807 := fun j hj => hsz _ (by rw [List.getD_eq_getElem?_getD, List.getElem?_eq_getElem hj]; exact List.getElem_mem hj)
    have Hc := Lib.hid hc
    have Hs := Lib.hid hsz'
    clear hc hsz hsz' hA
    go_enter Tryz.func13, Tryz.ntmps13
    go_wp2
    go_loop [3] (fun i => ∃ k : Nat, k ≤ l.length ∧ k ≤ 70 ∧ i = .int .i64 k ∧ ∀ j, j < k → (l.getD j ByteArray.empty).size ≤ 20) (fun i => 71 - (intOf i).toNat)
    case atStart => exact ⟨0, Nat.zero_le _, Nat.zero_le _, rfl, fun j hj => absurd hj (Nat.not_lt_zero _)⟩
    case round =>
      obtain ⟨k, hk1, hk2, rfl, hall⟩ := hrel
      have Hall := Lib.hid hall; clear hall
      by_cases h1 : k < l.length
      · by_cases h2 : k < 70
        · have hck := Hc.out k h1
          have hsk := Hs.out k h1
          have step : (l.getD k ByteArray.empty).size ≤ 20 → ∀ j, j < k + 1 → (l.getD j ByteArray.empty).size ≤ 20 := fun h j hj => by
            rcases Nat.lt_or_ge j k with h' | h'
            · exact Hall.out j h'
            · obtain rfl : j = k := by omega
              exact h
          have bad : ¬ (l.getD k ByteArray.empty).size ≤ 20 → shortB l = false := fun h => by
            unfold shortB
            rw [Bool.and_eq_false_iff]
            right
            rw [List.all_eq_false]
            refine ⟨l[k], List.getElem_mem h1, ?_⟩
            rw [List.getD_eq_getElem?_getD, List.getElem?_eq_getElem h1] at h
            simpa using h
          have Step := Lib.hid step
          have Bad := Lib.hid bad
          clear step bad
          generalize l.getD k ByteArray.empty = x at hck hsk Step Bad
          by_cases h3 : x.size ≤ 20
          · go_wp2
            go_round
            case rel => exact ⟨k + 1, by omega, by omega, by go_num, Step.out h3⟩
            case measure => simp [intOf]; omega
          · go_wp2
            go_ret
            have hs := Bad.out h3
            exact ⟨by rw [hs]; rfl, (Below.refl _ _).alloc (Nat.le_refl _) _⟩
        · have hs : shortB l = false := by
            unfold shortB
            rw [Bool.and_eq_false_iff]
            left
            exact decide_eq_false (by omega)
          have HS := Lib.hid hs; clear hs
          obtain rfl : k = 70 := by omega
          have h4 : ¬ l.length ≤ 70 := by omega
          go_wp2
          go_ret
          exact ⟨by rw [HS.out]; exact ret_bool (decide_eq_false (by omega)), (Below.refl _ _).alloc (Nat.le_refl _) _⟩
      · obtain rfl : k = l.length := by omega
        have hs : shortB l = true := by
          unfold shortB
          rw [Bool.and_eq_true]
          refine ⟨decide_eq_true hk2, ?_⟩
          rw [List.all_eq_true]
          intro x hx
          obtain ⟨j, hj, rfl⟩ := List.getElem_of_mem hx
          have := Hall.out j hj
          rw [List.getD_eq_getElem?_getD, List.getElem?_eq_getElem hj] at this
          simpa using this
        have HS := Lib.hid hs; clear hs
        go_wp2
        go_ret
        exact ⟨by rw [HS.out]; exact ret_bool (decide_eq_true (by omega)), (Below.refl _ _).alloc (Nat.le_refl _) _⟩

theorem short_facts {l : List ByteArray} (h : shortB l = true) : l.length ≤ 70 ∧ ∀ s ∈ l, s.size ≤ 20 := by
  unfold shortB at h
  rw [Bool.and_eq_true, List.all_eq_true] at h
  exact ⟨of_decide_eq_true h.1, fun s hs => of_decide_eq_true (h.2 s hs)⟩

/-- Two lists that are equal, wherever they lie. -/
theorem texts_same (w : World) (A B : Option Addr) (c d : Nat) (l : List ByteArray) (hm : l.length ≤ 1000) (hA : Names w w.heap.size A l) (hB : Names w w.heap.size B l) :
    Calls Tryz.prog 21 #[.slice A l.length c, .slice B l.length d] w fun e w' => e = .returned (.bool true) ∧ Below w.heap.size w w' := by
  have one : l.length = 0 ∨ ∃ b off b' off', A = some ⟨b, off, none⟩ ∧ B = some ⟨b', off', none⟩ ∧ b < w.heap.size ∧ b' < w.heap.size ∧ (∀ j, j < l.length → w.cell? ⟨b, off + j, none⟩ = some (.string (l.getD j ByteArray.empty))) ∧ (∀ j, j < l.length → w.cell? ⟨b', off' + j, none⟩ = some (.string (l.getD j ByteArray.empty))) := by
    rcases hA with h | ⟨b, off, h1, h2, h3⟩
    · left; rw [h]; rfl
    · rcases hB with h | ⟨b', off', g1, g2, g3⟩
      · left; rw [h]; rfl
      · exact .inr ⟨b, off, b', off', h1, g1, h2, g2, h3, g3⟩
  rcases one with h0 | ⟨b, off, b', off', rfl, rfl, h2, g2, h3, g3⟩
  · clear hA hB
    generalize l.length = n at *
    subst h0
    go_enter Tryz.func21, Tryz.ntmps21
    go_wp2
    go_loop [5] (fun i => i = .int .i64 0) (fun _ => 0)
    case atStart => rfl
    case round =>
      obtain rfl := hrel
      go_wp2
      go_ret
      exact ⟨rfl, Below.refl _ _⟩
  · have Hc := Lib.hid h3
    have Gc := Lib.hid g3
    clear h3 g3 hA hB
    have hne : ((l.length : Int) != (l.length : Int)) = false := by simp
    go_enter Tryz.func21, Tryz.ntmps21
    go_wp2
    go_loopw [5] (fun i wr => ∃ k : Nat, k ≤ l.length ∧ i = .int .i64 k ∧ Below w.heap.size w wr) (fun i _ => l.length - (intOf i).toNat)
    case atStart => exact ⟨0, Nat.zero_le _, rfl, Below.refl _ _⟩
    case round =>
      obtain ⟨k, hk1, rfl, hbw⟩ := hrel
      by_cases h1 : k < l.length
      · have hck : wr.cell? ⟨b, off + k, none⟩ = some (.string (l.getD k ByteArray.empty)) := by rw [hbw.cell (p := ⟨b, off + k, none⟩) h2]; exact Hc.out k h1
        have gck : wr.cell? ⟨b', off' + k, none⟩ = some (.string (l.getD k ByteArray.empty)) := by rw [hbw.cell (p := ⟨b', off' + k, none⟩) g2]; exact Gc.out k h1
        have hd : decide ((k : Int) < (l.length : Int)) = true := decide_eq_true (by omega)
        have hxx : ∀ x : ByteArray, (x.toList != x.toList) = false := fun x => by rw [bne, beq_self_eq_true]; rfl
        generalize l.getD k ByteArray.empty = x at hck gck
        have hx := hxx x
        clear hxx
        go_wp2_with fail
        go_quiet (fail)
        go_wp2_with fail
        go_roundw
        case rel => exact ⟨k + 1, by omega, by go_num, below_drewN hbw _⟩
        case measure => simp [intOf]; omega
      · obtain rfl : k = l.length := by omega
        go_wp2
        go_ret
        exact ⟨rfl, hbw⟩
end Go.Proofs.YtfhcnndleaoobaaGreatDoor
