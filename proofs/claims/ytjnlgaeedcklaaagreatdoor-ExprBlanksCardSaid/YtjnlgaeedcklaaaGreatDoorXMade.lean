/-
  The program's Made (of the law): a valid expression of six numbers and a kind.
-/
import Derived.Test.YtjnlgaeedcklaaaGreatDoorXSetsP
import Derived.Test.YtjnlgaeedcklaaaGreatDoorXReadB
set_option linter.unusedVariables false
set_option linter.unusedSimpArgs false
namespace Go.Proofs.YtjnlgaeedcklaaaGreatDoor
open Go.RowKit

/-- Six numbers and a kind as a value. -/
abbrev setsV (l : Nat → Nat) (k : Nat) : Value := .agg #[.int .u64 (l 0), .int .u64 (l 1), .int .u64 (l 2), .int .u64 (l 3), .int .u64 (l 4), .int .u64 (l 5), .int .u8 k]
abbrev setsC (l : Nat → Nat) (k : Nat) : Array Value := #[.int .u64 (l 0), .int .u64 (l 1), .int .u64 (l 2), .int .u64 (l 3), .int .u64 (l 4), .int .u64 (l 5), .int .u8 k]
abbrev sixV (l : Nat → Nat) : Value := .agg #[.int .u64 (l 0), .int .u64 (l 1), .int .u64 (l 2), .int .u64 (l 3), .int .u64 (l 4), .int .u64 (l 5)]

def cutC (l : Nat → Nat) (k j : Nat) : Value := .int .u64 ((if j < k then cutX j (l j) else 0 : Nat) : Int)
def cutCs (l : Nat → Nat) (k : Nat) : Array Value := #[cutC l k 0, cutC l k 1, cutC l k 2, cutC l k 3, cutC l k 4, cutC l k 5]
theorem cut_next (l : Nat → Nat) : ∀ k, k < 6 → (cutCs l k).setIfInBounds k (.int .u64 (cutX k (l k) : Nat)) = cutCs l (k + 1) :=
  six_cases (by simp [cutCs, cutC]) (by simp [cutCs, cutC]) (by simp [cutCs, cutC]) (by simp [cutCs, cutC]) (by simp [cutCs, cutC]) (by simp [cutCs, cutC])
theorem cut_at (l : Nat → Nat) : ∀ k, k < 6 → (cutCs l k)[k]? = some (.int .u64 0) :=
  six_cases (by simp [cutCs, cutC]) (by simp [cutCs, cutC]) (by simp [cutCs, cutC]) (by simp [cutCs, cutC]) (by simp [cutCs, cutC]) (by simp [cutCs, cutC])
theorem and_two : ∀ k, k < 256 → k &&& 2 = 2 * (k / 2 % 2) := by decide +kernel
theorem cut_six (l : Nat → Nat) : cutCs l 6 = #[.int .u64 (cutX 0 (l 0) : Nat), .int .u64 (cutX 1 (l 1) : Nat), .int .u64 (cutX 2 (l 2) : Nat), .int .u64 (cutX 3 (l 3) : Nat), .int .u64 (cutX 4 (l 4) : Nat), .int .u64 (cutX 5 (l 5) : Nat)] := by
  simp [cutCs, cutC]
theorem cut_zero (l : Nat → Nat) : cutCs l 0 = #[.int .u64 0, .int .u64 0, .int .u64 0, .int .u64 0, .int .u64 0, .int .u64 0] := by
  simp [cutCs, cutC]

theorem kx_fulls : ∀ i, i < 6 → Fs.full (KX i) = [1152921504606846975, 1152921504606846975, 16777215, 4294967294, 8190, 127].getD i 0 :=
  six_cases (by decide +kernel) (by decide +kernel) (by decide +kernel) (by decide +kernel) (by decide +kernel) (by decide +kernel)
theorem index_fulls (w : World) : ∀ k, k < 6 → (Instr.index 40 (.agg #[.int .u64 1152921504606846975, .int .u64 1152921504606846975, .int .u64 16777215, .int .u64 4294967294, .int .u64 8190, .int .u64 127]) (.int .i64 ((k : Nat) : Int))).run Tryz.prog w = .ok (.int .u64 (([1152921504606846975, 1152921504606846975, 16777215, 4294967294, 8190, 127].getD k 0 : Nat) : Int)) w :=
  six_cases (by kernel_rfl) (by kernel_rfl) (by kernel_rfl) (by kernel_rfl) (by kernel_rfl) (by kernel_rfl)
theorem index_six (l : Nat → Nat) (w : World) : ∀ k, k < 6 → (Instr.index 40 (sixV l) (.int .i64 ((k : Nat) : Int))).run Tryz.prog w = .ok (.int .u64 (l k : Nat)) w :=
  six_cases (by kernel_rfl) (by kernel_rfl) (by kernel_rfl) (by kernel_rfl) (by kernel_rfl) (by kernel_rfl)

set_option maxHeartbeats 2000000 in
theorem law_full (i : Nat) (hi : i < 6) (w : World) : Calls Tryz.prog 56 #[.int .i64 i] w fun e w' => e = .returned (.int .u64 (Fs.full (KX i))) ∧ w = w' := by
  have h := kx_fulls i hi
  have hidx := fun W => index_fulls W i hi
  rw [h]
  generalize ([1152921504606846975, 1152921504606846975, 16777215, 4294967294, 8190, 127] : List Nat).getD i 0 = r at *
  clear h
  go_enter Tryz.func56, Tryz.ntmps56
  go_wp2
  go_ret
  exact ⟨rfl, rfl⟩

abbrev madW (w : World) (l : Nat → Nat) (k : Nat) : World := ((w.alloc (.cells (setsC l k) 42)).alloc (.cells zeroC 25)).alloc (.cells (cutCs l 0) 40)
theorem made_laid (w : World) (l : Nat → Nat) (k : Nat) : Blk (madW w l k) w.heap.size 42 (setsC l k) ∧ Blk (madW w l k) (w.heap.size + 1) 25 zeroC ∧ Blk (madW w l k) (w.heap.size + 1 + 1) 40 (cutCs l 0) ∧ Below w.heap.size w (madW w l k) ∧ (madW w l k).heap.size = w.heap.size + 1 + 1 + 1 :=
  ⟨((Blk.new w _ _).alloc _).alloc _, by have := (Blk.new (w.alloc (.cells (setsC l k) 42)) 25 zeroC).alloc (.cells (cutCs l 0) 40); simpa using this, by have := Blk.new ((w.alloc (.cells (setsC l k) 42)).alloc (.cells zeroC 25)) 40 (cutCs l 0); simpa using this,
    (((Below.refl _ _).alloc (Nat.le_refl _) _).alloc (by simp) _).alloc (by simp <;> omega) _, by simp⟩

set_option maxRecDepth 100000 in
set_option maxHeartbeats 8000000 in
theorem law_Made (l : Nat → Nat) (k : Nat) (hl : ∀ i, i < 6 → l i < 18446744073709551616) (hk : k < 256) (w : World) :
    Calls Tryz.prog 25 #[setsV l k] w fun e w' => e = .returned (exN (madeX l (decide (k % 2 = 1)) (decide (k / 2 % 2 = 1)))) ∧ Below w.heap.size w w' := by
  have HL := Lib.hid hl
  clear hl
  obtain ⟨v, hv⟩ : ∃ v, exN (madeX l (decide (k % 2 = 1)) (decide (k / 2 % 2 = 1))) = v := ⟨_, rfl⟩
  rw [hv]
  have HV := Lib.hid hv
  clear hv
  obtain ⟨hS, hR, hA, hB, hsz⟩ := made_laid w l k
  obtain ⟨W0, hW0⟩ : ∃ W0, madW w l k = W0 := ⟨_, rfl⟩
  have HW0 := Lib.hid hW0
  rw [hW0] at hS hR hA hB hsz
  have HS := Lib.hid hS
  have HR := Lib.hid hR
  have HA := Lib.hid hA
  have HB := Lib.hid hB
  have HSZ := Lib.hid hsz
  clear hS hR hA hB hsz hW0
  go_enter Tryz.func25, Tryz.ntmps25
  go_wp2_with fail
  rw [← cut_zero l]
  have e0 := HW0.out
  unfold madW at e0
  rw [e0]
  clear e0
  go_loopw [9] (fun i wr => ∃ j : Nat, j ≤ 6 ∧ i = .int .i64 j ∧ Blk wr (w.heap.size + 1 + 1) 40 (cutCs l j) ∧ Blk wr w.heap.size 42 (setsC l k) ∧ Blk wr (w.heap.size + 1) 25 zeroC ∧ Below w.heap.size w wr) (fun i _ => 6 - (intOf i).toNat)
  case atStart => exact ⟨0, Nat.zero_le _, rfl, HA.out, HS.out, HR.out, HB.out⟩
  case round =>
    obtain ⟨j, hj6, rfl, hA, hS, hR, hB⟩ := hrel
    replace HA := Lib.hid hA
    replace HS := Lib.hid hS
    replace HR := Lib.hid hR
    replace HB := Lib.hid hB
    have szA := hA.lt
    have szS := hS.lt
    clear hA hS hR hB
    by_cases hj : j < 6
    · have HFj : Hid (∀ W, Calls Tryz.prog 56 #[.int .i64 j] W fun e w' => e = .returned (.int .u64 (Fs.full (KX j))) ∧ W = w') := Lib.hid fun W => law_full j hj W
      have hix : ∀ W, (Instr.index 40 (sixV l) (.int .i64 ((j : Nat) : Int))).run Tryz.prog W = .ok (.int .u64 (l j : Nat)) W := fun W => index_six l W j hj
      have af := HA.out.frozen j
      have HN := Lib.hid (cut_next l j hj)
      have hc : cutX j (l j) = if l j &&& Fs.full (KX j) = 0 then Fs.full (KX j) else l j &&& Fs.full (KX j) := rfl
      obtain ⟨c, hcc⟩ : ∃ c, cutX j (l j) = c := ⟨_, rfl⟩
      rw [hcc] at HN hc
      have hlj := HL.out j hj
      have hfl := kx_lt j hj
      clear hcc
      obtain ⟨q, hq⟩ : ∃ q, l j = q := ⟨_, rfl⟩
      rw [hq] at hix hc hlj
      obtain ⟨f, hf⟩ : ∃ f, Fs.full (KX j) = f := ⟨_, rfl⟩
      rw [hf] at HFj hc hfl
      clear hq hf
      have hbq : bits .and .u64 (q : Int) (f : Int) = ((q &&& f : Nat) : Int) := u64_and_nat q f hlj hfl
      have acell : wr.cell? ⟨w.heap.size + 1 + 1, j, none⟩ = some (.int .u64 0) := (HA.out.cell j).trans (cut_at l j hj)
      generalize q &&& f = r at *
      have Hj6 : j + 1 ≤ 6 := hj
      by_cases hz : r = 0
      · have dz : ((r : Int) == 0) = true := by rw [beq_iff_eq]; omega
        rw [if_pos hz] at hc
        subst hc
        clear hz
        go_wp2_with (go_at_call 56; (with_reducible refine (HFj.out _).mono ?_); rintro e w1 ⟨rfl, rfl⟩)
        go_roundw
        case rel =>
          refine ⟨j + 1, Hj6, by go_num, ?_, (HS.out.far (p := ⟨w.heap.size + 1 + 1, j, none⟩) (by simp; omega) _).far (p := ⟨w.heap.size + 1 + 1, j, none⟩) (by simp; omega) _, (HR.out.far (p := ⟨w.heap.size + 1 + 1, j, none⟩) (by simp) _).far (p := ⟨w.heap.size + 1 + 1, j, none⟩) (by simp) _, (HB.out.setCell (p := ⟨w.heap.size + 1 + 1, j, none⟩) (by simp; omega) _).setCell (p := ⟨w.heap.size + 1 + 1, j, none⟩) (by simp; omega) _⟩
          have h := (HA.out.set_ j (.int .u64 r)).set_ j (.int .u64 c)
          rw [Array.setIfInBounds_setIfInBounds, HN.out] at h
          exact h
        case measure => simp [intOf]; omega
      · have dz : ((r : Int) == 0) = false := by rw [beq_eq_false_iff_ne]; omega
        rw [if_neg hz] at hc
        subst hc
        clear hz
        go_wp2_with (go_at_call 56; (with_reducible refine (HFj.out _).mono ?_); rintro e w1 ⟨rfl, rfl⟩)
        go_roundw
        case rel =>
          refine ⟨j + 1, Hj6, by go_num, ?_, HS.out.far (p := ⟨w.heap.size + 1 + 1, j, none⟩) (by simp; omega) _, HR.out.far (p := ⟨w.heap.size + 1 + 1, j, none⟩) (by simp) _, HB.out.setCell (p := ⟨w.heap.size + 1 + 1, j, none⟩) (by simp; omega) _⟩
          have h := HA.out.set_ j (.int .u64 c)
          rw [HN.out] at h
          exact h
        case measure => simp [intOf]; omega
    · obtain rfl : j = 6 := by omega
      have szR := HR.out.lt
      obtain ⟨sc, sf⟩ := HS.out.facts
      obtain ⟨rc, rf⟩ := HR.out.facts
      have hA6 := HA.out
      rw [cut_six] at hA6
      obtain ⟨ac, af⟩ := hA6.facts
      clear hA6
      have HV2 : Hid (∀ ad aw, decide (k % 2 = 1) = ad → decide (k / 2 % 2 = 1) = aw → v = exV (cutX 0 (l 0)) (cutX 1 (l 1)) (cutX 2 (l 2)) (if ad then Fs.full (KX 3) else cutX 3 (l 3)) (cutX 4 (l 4)) (if aw then Fs.full (KX 5) else cutX 5 (l 5)) ad aw) := Lib.hid fun ad aw h1 h2 => by rw [← HV.out, h1, h2]; rfl
      have HF3 : Hid (∀ W, Calls Tryz.prog 56 #[.int .i64 3] W fun e w' => e = .returned (.int .u64 (Fs.full (KX 3))) ∧ W = w') := Lib.hid fun W => law_full 3 (by decide) W
      have HF5 : Hid (∀ W, Calls Tryz.prog 56 #[.int .i64 5] W fun e w' => e = .returned (.int .u64 (Fs.full (KX 5))) ∧ W = w') := Lib.hid fun W => law_full 5 (by decide) W
      clear HV
      generalize cutX 0 (l 0) = c0 at *
      generalize cutX 1 (l 1) = c1 at *
      generalize cutX 2 (l 2) = c2 at *
      generalize cutX 3 (l 3) = c3 at *
      generalize cutX 4 (l 4) = c4 at *
      generalize cutX 5 (l 5) = c5 at *
      generalize Fs.full (KX 3) = f3 at *
      generalize Fs.full (KX 5) = f5 at *
      have b1 : bits .and .u8 (k : Int) 1 = ((k % 2 : Nat) : Int) := by
        have := u8_and_nat k 1 hk (by decide)
        rw [Nat.and_one_is_mod] at this
        exact this
      have b2 : bits .and .u8 (k : Int) 2 = ((2 * (k / 2 % 2) : Nat) : Int) := by
        have := u8_and_nat k 2 hk (by decide)
        rw [and_two k hk] at this
        exact this
      have m1 : k % 2 < 2 := Nat.mod_lt _ (by decide)
      have m2 : k / 2 % 2 < 2 := Nat.mod_lt _ (by decide)
      generalize k % 2 = p at *
      generalize k / 2 % 2 = q at *
      obtain ⟨q2, hq2⟩ : ∃ q2, 2 * q = q2 := ⟨_, rfl⟩
      rw [hq2] at b2
      have hp : p = 0 ∨ p = 1 := by omega
      have hq : q = 0 ∨ q = 1 := by omega
      subst hq2
      rcases hp with rfl | rfl <;> rcases hq with rfl | rfl
      · have Hv : Hid (v = exV c0 c1 c2 c3 c4 c5 false false) := Lib.hid (HV2.out _ _ rfl rfl)
        clear HV2
        go_wp2_with (first
          | (go_at_call 56; (with_reducible refine (HF3.out _).mono ?_); rintro e w1 ⟨rfl, rfl⟩)
          | (go_at_call 56; (with_reducible refine (HF5.out _).mono ?_); rintro e w1 ⟨rfl, rfl⟩))
        have key : ∀ o, (∀ i, ((put8 wr (w.heap.size + 1) (.int .u64 c0) (.int .u64 c1) (.int .u64 c2) (.int .u64 c3) (.int .u64 c4) (.int .u64 c5) (.bool false) (.bool false)).alloc o).cell? ⟨w.heap.size + 1, i, none⟩ = (#[.int .u64 c0, .int .u64 c1, .int .u64 c2, .int .u64 c3, .int .u64 c4, .int .u64 c5, .bool false, .bool false] : Array Value)[i]?) := fun o => ((HR.out.set8 (.int .u64 c0) (.int .u64 c1) (.int .u64 c2) (.int .u64 c3) (.int .u64 c4) (.int .u64 c5) (.bool false) (.bool false)).alloc o).facts.1
        refine bodyPost_ret (v := v) ?_ rfl ⟨rfl, ?_⟩
        · rw [Hv.out]
          simp [results, Tryz.results25, go_sem, key]
        · exact (below_set8 HB.out (by omega) (.int .u64 c0) (.int .u64 c1) (.int .u64 c2) (.int .u64 c3) (.int .u64 c4) (.int .u64 c5) (.bool false) (.bool false)).alloc (by simp; have := HB.out.size; omega) _
      · have Hv : Hid (v = exV c0 c1 c2 c3 c4 f5 false true) := Lib.hid (HV2.out _ _ rfl rfl)
        clear HV2
        go_wp2_with (first
          | (go_at_call 56; (with_reducible refine (HF3.out _).mono ?_); rintro e w1 ⟨rfl, rfl⟩)
          | (go_at_call 56; (with_reducible refine (HF5.out _).mono ?_); rintro e w1 ⟨rfl, rfl⟩))
        have key : ∀ o, (∀ i, ((put8 wr (w.heap.size + 1) (.int .u64 c0) (.int .u64 c1) (.int .u64 c2) (.int .u64 c3) (.int .u64 c4) (.int .u64 f5) (.bool false) (.bool true)).alloc o).cell? ⟨w.heap.size + 1, i, none⟩ = (#[.int .u64 c0, .int .u64 c1, .int .u64 c2, .int .u64 c3, .int .u64 c4, .int .u64 f5, .bool false, .bool true] : Array Value)[i]?) := fun o => ((HR.out.set8 (.int .u64 c0) (.int .u64 c1) (.int .u64 c2) (.int .u64 c3) (.int .u64 c4) (.int .u64 f5) (.bool false) (.bool true)).alloc o).facts.1
        refine bodyPost_ret (v := v) ?_ rfl ⟨rfl, ?_⟩
        · rw [Hv.out]
          simp [results, Tryz.results25, go_sem, key]
        · exact (below_set8 HB.out (by omega) (.int .u64 c0) (.int .u64 c1) (.int .u64 c2) (.int .u64 c3) (.int .u64 c4) (.int .u64 f5) (.bool false) (.bool true)).alloc (by simp; have := HB.out.size; omega) _
      · have Hv : Hid (v = exV c0 c1 c2 f3 c4 c5 true false) := Lib.hid (HV2.out _ _ rfl rfl)
        clear HV2
        go_wp2_with (first
          | (go_at_call 56; (with_reducible refine (HF3.out _).mono ?_); rintro e w1 ⟨rfl, rfl⟩)
          | (go_at_call 56; (with_reducible refine (HF5.out _).mono ?_); rintro e w1 ⟨rfl, rfl⟩))
        have key : ∀ o, (∀ i, ((put8 wr (w.heap.size + 1) (.int .u64 c0) (.int .u64 c1) (.int .u64 c2) (.int .u64 f3) (.int .u64 c4) (.int .u64 c5) (.bool true) (.bool false)).alloc o).cell? ⟨w.heap.size + 1, i, none⟩ = (#[.int .u64 c0, .int .u64 c1, .int .u64 c2, .int .u64 f3, .int .u64 c4, .int .u64 c5, .bool true, .bool false] : Array Value)[i]?) := fun o => ((HR.out.set8 (.int .u64 c0) (.int .u64 c1) (.int .u64 c2) (.int .u64 f3) (.int .u64 c4) (.int .u64 c5) (.bool true) (.bool false)).alloc o).facts.1
        refine bodyPost_ret (v := v) ?_ rfl ⟨rfl, ?_⟩
        · rw [Hv.out]
          simp [results, Tryz.results25, go_sem, key]
        · exact (below_set8 HB.out (by omega) (.int .u64 c0) (.int .u64 c1) (.int .u64 c2) (.int .u64 f3) (.int .u64 c4) (.int .u64 c5) (.bool true) (.bool false)).alloc (by simp; have := HB.out.size; omega) _
      · have Hv : Hid (v = exV c0 c1 c2 f3 c4 f5 true true) := Lib.hid (HV2.out _ _ rfl rfl)
        clear HV2
        go_wp2_with (first
          | (go_at_call 56; (with_reducible refine (HF3.out _).mono ?_); rintro e w1 ⟨rfl, rfl⟩)
          | (go_at_call 56; (with_reducible refine (HF5.out _).mono ?_); rintro e w1 ⟨rfl, rfl⟩))
        have key : ∀ o, (∀ i, ((put8 wr (w.heap.size + 1) (.int .u64 c0) (.int .u64 c1) (.int .u64 c2) (.int .u64 f3) (.int .u64 c4) (.int .u64 f5) (.bool true) (.bool true)).alloc o).cell? ⟨w.heap.size + 1, i, none⟩ = (#[.int .u64 c0, .int .u64 c1, .int .u64 c2, .int .u64 f3, .int .u64 c4, .int .u64 f5, .bool true, .bool true] : Array Value)[i]?) := fun o => ((HR.out.set8 (.int .u64 c0) (.int .u64 c1) (.int .u64 c2) (.int .u64 f3) (.int .u64 c4) (.int .u64 f5) (.bool true) (.bool true)).alloc o).facts.1
        refine bodyPost_ret (v := v) ?_ rfl ⟨rfl, ?_⟩
        · rw [Hv.out]
          simp [results, Tryz.results25, go_sem, key]
        · exact (below_set8 HB.out (by omega) (.int .u64 c0) (.int .u64 c1) (.int .u64 c2) (.int .u64 f3) (.int .u64 c4) (.int .u64 f5) (.bool true) (.bool true)).alloc (by simp; have := HB.out.size; omega) _
end Go.Proofs.YtjnlgaeedcklaaaGreatDoor
