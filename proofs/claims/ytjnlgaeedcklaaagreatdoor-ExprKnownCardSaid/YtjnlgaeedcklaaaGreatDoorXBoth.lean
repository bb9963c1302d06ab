/-
  The program's Both: the expression that matches where two do.
-/
import Derived.Test.YtjnlgaeedcklaaaGreatDoorXFree
import Derived.Test.YtjnlgaeedcklaaaGreatDoorXReadB
import Derived.Deep.DeepCutAuto
import Derived.Deep.CutBlock
import Derived.Test.YtjnlgaeedcklaaaGreatDoorXSec
set_option linter.unusedVariables false
set_option linter.unusedSimpArgs false
namespace Go.Proofs.YtjnlgaeedcklaaaGreatDoor
open Go.RowKit

/-- What Both returns. -/
def retB (r : Xs.Ex × Bool × Int) : Value := .tuple #[exN r.1, .bool r.2.1, .int .i64 r.2.2]
theorem both_good {a b : Xs.Ex} {q : Nat × Nat × Bool × Bool} (hq : Xs.daysB KX a b = some q) (h : ∀ k, k < 6 → setX (Xs.joinE a b q) k ≠ 0) : Xs.bothV KX a b = (Xs.joinE a b q, true, 0) := by
  unfold Xs.bothV
  rw [hq]
  simp only
  rw [if_pos]
  rw [List.all_eq_true]
  intro s hs
  obtain ⟨k, hk, rfl⟩ := List.getElem_of_mem hs
  have h6 : k < 6 := hk
  have := h k h6
  rw [setX, List.getD_eq_getElem?_getD, List.getElem?_eq_getElem hk] at this
  exact decide_eq_true this
theorem both_zero {a b : Xs.Ex} {q : Nat × Nat × Bool × Bool} (hq : Xs.daysB KX a b = some q) {k : Nat} (hk : k < 6) (h : setX (Xs.joinE a b q) k = 0) : Xs.bothV KX a b = (Xs.Ex.zero, false, 0) := by
  unfold Xs.bothV
  rw [hq]
  simp only
  rw [if_neg]
  intro hall
  rw [List.all_eq_true] at hall
  have hk' : k < (Xs.joinE a b q).sets.length := hk
  rw [setX, List.getD_eq_getElem?_getD, List.getElem?_eq_getElem hk'] at h
  exact absurd h (of_decide_eq_true (hall _ (List.getElem_mem hk')))

/-- What the walk through Both keeps: the boxes of both expressions, the result's block, the tables. -/
structure BothS (w : World) (ca cb : Array Value) (bA bB bE : Nat) (V : World) : Prop where
  ka : Blk V bA 25 ca
  kb : Blk V bB 25 cb
  ke : Blk V bE 25 zeroC
  bl : Below w.heap.size w V
  tb : Tabs V
theorem BothS.grow {w V V' : World} {ca cb : Array Value} {bA bB bE : Nat} (h : BothS w ca cb bA bB bE V) (hb : Below V.heap.size V V') : BothS w ca cb bA bB bE V' :=
  ⟨h.ka.below hb h.ka.lt, h.kb.below hb h.kb.lt, h.ke.below hb h.ke.lt, h.bl.trans (hb.mono h.bl.size), h.tb.grow hb⟩
theorem BothS.setX {w V : World} {ca cb : Array Value} {bA bB bE X : Nat} (h : BothS w ca cb bA bB bE V) (hT : Tabs w) (hn : bA ≠ X ∧ bB ≠ X ∧ bE ≠ X ∧ w.heap.size ≤ X) (k : Nat) (v : Value) : BothS w ca cb bA bB bE (V.setCell ⟨X, k, none⟩ v) :=
  have hb := h.bl.setCell (p := ⟨X, k, none⟩) hn.2.2.2 v
  ⟨h.ka.far (p := ⟨X, k, none⟩) hn.1 v, h.kb.far (p := ⟨X, k, none⟩) hn.2.1 v, h.ke.far (p := ⟨X, k, none⟩) hn.2.2.1 v, hb, hT.grow hb⟩
theorem BothS.drew {w V : World} {ca cb : Array Value} {bA bB bE : Nat} (h : BothS w ca cb bA bB bE V) : BothS w ca cb bA bB bE V.drew := ⟨h.ka.drew, h.kb.drew, h.ke.drew, h.bl.drew, h.tb.drew⟩
theorem BothS.set8X {w V : World} {ca cb : Array Value} {bA bB bE X : Nat} (h : BothS w ca cb bA bB bE V) (hT : Tabs w) (hn : bA ≠ X ∧ bB ≠ X ∧ bE ≠ X ∧ w.heap.size ≤ X) (y0 y1 y2 y3 y4 y5 y6 y7 : Value) : BothS w ca cb bA bB bE (put8 V X y0 y1 y2 y3 y4 y5 y6 y7) :=
  (((((((h.setX hT hn 0 y0).setX hT hn 1 y1).setX hT hn 2 y2).setX hT hn 3 y3).setX hT hn 4 y4).setX hT hn 5 y5).setX hT hn 6 y6).setX hT hn 7 y7
abbrev bothW (w : World) (ca cb : Array Value) : World := ((w.alloc (.cells ca 25)).alloc (.cells cb 25)).alloc (.cells zeroC 25)
theorem both_laid (w : World) (ca cb : Array Value) (hT : Tabs w) : BothS w ca cb w.heap.size (w.heap.size + 1) (w.heap.size + 1 + 1) (bothW w ca cb) :=
  ⟨((blk_at rfl).alloc _).alloc _, (blk_at (by simp)).alloc _, blk_at (by simp), (((Below.refl _ _).alloc (Nat.le_refl _) _).alloc (by simp) _).alloc (by simp <;> omega) _, ((hT.alloc _).alloc _).alloc _⟩
theorem cell_farB {W : World} {b g o k : Nat} (h : b ≠ g) (y : Value) : (W.setCell ⟨g, k, none⟩ y).cell? ⟨b, o, none⟩ = W.cell? ⟨b, o, none⟩ := World.cell?_of_block (a := ⟨b, o, none⟩) (Below.heap_setCell W ⟨g, k, none⟩ y b h)
theorem Blk.joinX {W : World} {X : Nat} {s m h d n k : Nat} {x y : Bool} (hX : Blk W X 25 (exC s m h d n k x y)) (s' m' h' n' : Nat) :
    Blk ((((W.setCell ⟨X, 0, none⟩ (.int .u64 s')).setCell ⟨X, 1, none⟩ (.int .u64 m')).setCell ⟨X, 2, none⟩ (.int .u64 h')).setCell ⟨X, 4, none⟩ (.int .u64 n')).drew X 25 (exC s' m' h' d n' k x y) := by
  simpa using ((((hX.set_ 0 (.int .u64 s')).set_ 1 (.int .u64 m')).set_ 2 (.int .u64 h')).set_ 4 (.int .u64 n')).drew
theorem s8_far {W : World} {bA bB X k : Nat} {v : Value} {a0 b0 a1 b1 a2 b2 a4 b4 : Nat} (hA : bA ≠ X) (hB : bB ≠ X)
    (h : W.cell? ⟨bA, 0, none⟩ = some (.int .u64 a0) ∧ W.cell? ⟨bB, 0, none⟩ = some (.int .u64 b0) ∧ W.cell? ⟨bA, 1, none⟩ = some (.int .u64 a1) ∧ W.cell? ⟨bB, 1, none⟩ = some (.int .u64 b1) ∧ W.cell? ⟨bA, 2, none⟩ = some (.int .u64 a2) ∧ W.cell? ⟨bB, 2, none⟩ = some (.int .u64 b2) ∧ W.cell? ⟨bA, 4, none⟩ = some (.int .u64 a4) ∧ W.cell? ⟨bB, 4, none⟩ = some (.int .u64 b4)) :
    (W.setCell ⟨X, k, none⟩ v).cell? ⟨bA, 0, none⟩ = some (.int .u64 a0) ∧ (W.setCell ⟨X, k, none⟩ v).cell? ⟨bB, 0, none⟩ = some (.int .u64 b0) ∧ (W.setCell ⟨X, k, none⟩ v).cell? ⟨bA, 1, none⟩ = some (.int .u64 a1) ∧ (W.setCell ⟨X, k, none⟩ v).cell? ⟨bB, 1, none⟩ = some (.int .u64 b1) ∧ (W.setCell ⟨X, k, none⟩ v).cell? ⟨bA, 2, none⟩ = some (.int .u64 a2) ∧ (W.setCell ⟨X, k, none⟩ v).cell? ⟨bB, 2, none⟩ = some (.int .u64 b2) ∧ (W.setCell ⟨X, k, none⟩ v).cell? ⟨bA, 4, none⟩ = some (.int .u64 a4) ∧ (W.setCell ⟨X, k, none⟩ v).cell? ⟨bB, 4, none⟩ = some (.int .u64 b4) :=
  ⟨(cell_farB hA v).trans h.1, (cell_farB hB v).trans h.2.1, (cell_farB hA v).trans h.2.2.1, (cell_farB hB v).trans h.2.2.2.1, (cell_farB hA v).trans h.2.2.2.2.1, (cell_farB hB v).trans h.2.2.2.2.2.1, (cell_farB hA v).trans h.2.2.2.2.2.2.1, (cell_farB hB v).trans h.2.2.2.2.2.2.2⟩
theorem s8_drew {W : World} {bA bB : Nat} {a0 b0 a1 b1 a2 b2 a4 b4 : Nat} (h : W.cell? ⟨bA, 0, none⟩ = some (.int .u64 a0) ∧ W.cell? ⟨bB, 0, none⟩ = some (.int .u64 b0) ∧ W.cell? ⟨bA, 1, none⟩ = some (.int .u64 a1) ∧ W.cell? ⟨bB, 1, none⟩ = some (.int .u64 b1) ∧ W.cell? ⟨bA, 2, none⟩ = some (.int .u64 a2) ∧ W.cell? ⟨bB, 2, none⟩ = some (.int .u64 b2) ∧ W.cell? ⟨bA, 4, none⟩ = some (.int .u64 a4) ∧ W.cell? ⟨bB, 4, none⟩ = some (.int .u64 b4)) :
    W.drew.cell? ⟨bA, 0, none⟩ = some (.int .u64 a0) ∧ W.drew.cell? ⟨bB, 0, none⟩ = some (.int .u64 b0) ∧ W.drew.cell? ⟨bA, 1, none⟩ = some (.int .u64 a1) ∧ W.drew.cell? ⟨bB, 1, none⟩ = some (.int .u64 b1) ∧ W.drew.cell? ⟨bA, 2, none⟩ = some (.int .u64 a2) ∧ W.drew.cell? ⟨bB, 2, none⟩ = some (.int .u64 b2) ∧ W.drew.cell? ⟨bA, 4, none⟩ = some (.int .u64 a4) ∧ W.drew.cell? ⟨bB, 4, none⟩ = some (.int .u64 b4) := h

set_option maxRecDepth 100000 in
set_option maxHeartbeats 8000000 in
theorem both_bad (a0 a1 a2 a3 a4 a5 : Nat) (ad aw : Bool) (b0 b1 b2 b3 b4 b5 : Nat) (bd bw : Bool) (w : World) (hT : Tabs w)
    (ha : SmallX ⟨a0, a1, a2, a3, a4, a5, ad, aw⟩) (hb : SmallX ⟨b0, b1, b2, b3, b4, b5, bd, bw⟩)
    (hc : Xs.checkB KX ⟨a0, a1, a2, a3, a4, a5, ad, aw⟩ = false ∨ Xs.checkB KX ⟨a0, a1, a2, a3, a4, a5, ad, aw⟩ = true ∧ Xs.checkB KX ⟨b0, b1, b2, b3, b4, b5, bd, bw⟩ = false) :
    Calls Tryz.prog 27 #[exV a0 a1 a2 a3 a4 a5 ad aw, exV b0 b1 b2 b3 b4 b5 bd bw] w fun e w' => e = .returned (.tuple #[exV 0 0 0 0 0 0 false false, .bool false, .int .i64 16]) ∧ Below w.heap.size w w' := by
  have HCa : Hid (∀ W, Tabs W → Calls Tryz.prog 23 #[exV a0 a1 a2 a3 a4 a5 ad aw] W fun e w' => e = .returned (.int .i64 (chk ⟨a0, a1, a2, a3, a4, a5, ad, aw⟩)) ∧ Below W.heap.size W w') := Lib.hid fun W h => expr_Check ⟨a0, a1, a2, a3, a4, a5, ad, aw⟩ W ha h
  have HCb : Hid (∀ W, Tabs W → Calls Tryz.prog 23 #[exV b0 b1 b2 b3 b4 b5 bd bw] W fun e w' => e = .returned (.int .i64 (chk ⟨b0, b1, b2, b3, b4, b5, bd, bw⟩)) ∧ Below W.heap.size W w') := Lib.hid fun W h => expr_Check ⟨b0, b1, b2, b3, b4, b5, bd, bw⟩ W hb h
  obtain ⟨W0, hW0⟩ : ∃ W0, bothW w (exC a0 a1 a2 a3 a4 a5 ad aw) (exC b0 b1 b2 b3 b4 b5 bd bw) = W0 := ⟨_, rfl⟩
  have S0 := both_laid w (exC a0 a1 a2 a3 a4 a5 ad aw) (exC b0 b1 b2 b3 b4 b5 bd bw) hT
  rw [hW0] at S0
  have HW0 := Lib.hid hW0
  clear hW0
  obtain ⟨bA, hbA⟩ : ∃ x, x = w.heap.size := ⟨_, rfl⟩
  obtain ⟨bB, hbB⟩ : ∃ x, x = w.heap.size + 1 := ⟨_, rfl⟩
  obtain ⟨bE, hbE⟩ : ∃ x, x = w.heap.size + 1 + 1 := ⟨_, rfl⟩
  rw [← hbE, ← hbB, ← hbA] at S0
  have HAB : Hid (bA ≠ bB ∧ bA ≠ bE ∧ bB ≠ bE ∧ w.heap.size ≤ bE) := Lib.hid ⟨by omega, by omega, by omega, by omega⟩
  have HT := Lib.hid hT
  have H0 := Lib.hid S0
  obtain ⟨ac, af⟩ := S0.ka.facts
  clear hT S0
  rcases hc with hc | ⟨hc1, hc2⟩
  · rw [chk_bad hc] at HCa
    clear hc HCb
    go_enter Tryz.func27, Tryz.ntmps27
    go_upto_region 1 with fail
    have e0 := HW0.out; unfold bothW at e0; rw [e0, ← hbE, ← hbB, ← hbA]; clear e0
    clear HW0 hbA hbB hbE
    go_upto_region 2 with (go_at_call 23; (with_reducible refine (HCa.out _ H0.out.tb).mono ?_); rintro e w1 ⟨rfl, hb1⟩; have S1 := Lib.hid (H0.out.grow hb1); clear hb1)
    clear ac af
    obtain ⟨ec, ef⟩ := S1.out.ke.facts
    have hEf := S1.out.ke.set8 (.int .u64 0) (.int .u64 0) (.int .u64 0) (.int .u64 0) (.int .u64 0) (.int .u64 0) (.bool false) (.bool false)
    have hBf := below_set8 S1.out.bl HAB.out.2.2.2 (.int .u64 0) (.int .u64 0) (.int .u64 0) (.int .u64 0) (.int .u64 0) (.int .u64 0) (.bool false) (.bool false)
    have HF := Lib.hid (And.intro hEf hBf)
    clear hEf hBf
    go_wp2_with fail
    obtain ⟨hEf, hBf⟩ := HF.out
    clear ec ef HF
    unfold put8 at hEf hBf
    generalize World.setCell _ _ _ = WZ at hEf hBf ⊢
    obtain ⟨ec, ef⟩ := hEf.facts
    exact bodyPost_ret (v := .tuple #[exV 0 0 0 0 0 0 false false, .bool false, .int .i64 16]) (by simp [results, Tryz.results27, go_sem, ec, ef]) rfl ⟨rfl, hBf⟩
  · rw [chk_ok hc1] at HCa
    rw [chk_bad hc2] at HCb
    clear hc1 hc2
    go_enter Tryz.func27, Tryz.ntmps27
    go_upto_region 1 with fail
    have e0 := HW0.out; unfold bothW at e0; rw [e0, ← hbE, ← hbB, ← hbA]; clear e0
    clear HW0 hbA hbB hbE
    go_upto_region 2 with (first
      | (go_at_call 23; (with_reducible refine (HCa.out _ H0.out.tb).mono ?_); clear HCa; rintro e w1 ⟨rfl, hb1⟩; have S1 := Lib.hid (H0.out.grow hb1); clear ac af hb1; obtain ⟨bc, bf⟩ := S1.out.kb.facts)
      | (go_at_call 23; (with_reducible refine (HCb.out _ S1.out.tb).mono ?_); clear HCb; rintro e w2 ⟨rfl, hb2⟩; have S2 := Lib.hid (S1.out.grow hb2); clear bc bf hb2))
    obtain ⟨ec, ef⟩ := S2.out.ke.facts
    have hEf := S2.out.ke.set8 (.int .u64 0) (.int .u64 0) (.int .u64 0) (.int .u64 0) (.int .u64 0) (.int .u64 0) (.bool false) (.bool false)
    have hBf := below_set8 S2.out.bl HAB.out.2.2.2 (.int .u64 0) (.int .u64 0) (.int .u64 0) (.int .u64 0) (.int .u64 0) (.int .u64 0) (.bool false) (.bool false)
    have HF := Lib.hid (And.intro hEf hBf)
    clear hEf hBf
    go_wp2_with fail
    obtain ⟨hEf, hBf⟩ := HF.out
    clear ec ef HF
    unfold put8 at hEf hBf
    generalize World.setCell _ _ _ = WZ at hEf hBf ⊢
    obtain ⟨ec, ef⟩ := hEf.facts
    exact bodyPost_ret (v := .tuple #[exV 0 0 0 0 0 0 false false, .bool false, .int .i64 16]) (by simp [results, Tryz.results27, go_sem, ec, ef]) rfl ⟨rfl, hBf⟩

set_option maxRecDepth 100000 in
set_option maxHeartbeats 8000000 in
theorem both_err (a0 a1 a2 a3 a4 a5 : Nat) (ad aw : Bool) (b0 b1 b2 b3 b4 b5 : Nat) (bd bw : Bool) (w : World) (hT : Tabs w)
    (ha : SmallX ⟨a0, a1, a2, a3, a4, a5, ad, aw⟩) (hb : SmallX ⟨b0, b1, b2, b3, b4, b5, bd, bw⟩)
    (hca : Xs.checkB KX ⟨a0, a1, a2, a3, a4, a5, ad, aw⟩ = true) (hcb : Xs.checkB KX ⟨b0, b1, b2, b3, b4, b5, bd, bw⟩ = true)
    (hq : Xs.daysB KX ⟨a0, a1, a2, a3, a4, a5, ad, aw⟩ ⟨b0, b1, b2, b3, b4, b5, bd, bw⟩ = none) :
    Calls Tryz.prog 27 #[exV a0 a1 a2 a3 a4 a5 ad aw, exV b0 b1 b2 b3 b4 b5 bd bw] w fun e w' => e = .returned (.tuple #[exV 0 0 0 0 0 0 false false, .bool false, .int .i64 2]) ∧ Below w.heap.size w w' := by
  have HCa : Hid (∀ W, Tabs W → Calls Tryz.prog 23 #[exV a0 a1 a2 a3 a4 a5 ad aw] W fun e w' => e = .returned (.int .i64 (chk ⟨a0, a1, a2, a3, a4, a5, ad, aw⟩)) ∧ Below W.heap.size W w') := Lib.hid fun W h => expr_Check ⟨a0, a1, a2, a3, a4, a5, ad, aw⟩ W ha h
  have HCb : Hid (∀ W, Tabs W → Calls Tryz.prog 23 #[exV b0 b1 b2 b3 b4 b5 bd bw] W fun e w' => e = .returned (.int .i64 (chk ⟨b0, b1, b2, b3, b4, b5, bd, bw⟩)) ∧ Below W.heap.size W w') := Lib.hid fun W h => expr_Check ⟨b0, b1, b2, b3, b4, b5, bd, bw⟩ W hb h
  obtain ⟨W0, hW0⟩ : ∃ W0, bothW w (exC a0 a1 a2 a3 a4 a5 ad aw) (exC b0 b1 b2 b3 b4 b5 bd bw) = W0 := ⟨_, rfl⟩
  have S0 := both_laid w (exC a0 a1 a2 a3 a4 a5 ad aw) (exC b0 b1 b2 b3 b4 b5 bd bw) hT
  rw [hW0] at S0
  have HW0 := Lib.hid hW0
  clear hW0
  obtain ⟨bA, hbA⟩ : ∃ x, x = w.heap.size := ⟨_, rfl⟩
  obtain ⟨bB, hbB⟩ : ∃ x, x = w.heap.size + 1 := ⟨_, rfl⟩
  obtain ⟨bE, hbE⟩ : ∃ x, x = w.heap.size + 1 + 1 := ⟨_, rfl⟩
  rw [← hbE, ← hbB, ← hbA] at S0
  have HAB : Hid (bA ≠ bB ∧ bA ≠ bE ∧ bB ≠ bE ∧ w.heap.size ≤ bE) := Lib.hid ⟨by omega, by omega, by omega, by omega⟩
  have HFa : Hid (∀ W, Tabs W → Calls Tryz.prog 58 #[exV a0 a1 a2 a3 a4 a5 ad aw] W fun e w' => e = .returned (.bool (Xs.freeB KX ⟨a0, a1, a2, a3, a4, a5, ad, aw⟩)) ∧ Below W.heap.size W w') := Lib.hid fun W h => expr_free ⟨a0, a1, a2, a3, a4, a5, ad, aw⟩ W h
  have HFb : Hid (∀ W, Tabs W → Calls Tryz.prog 58 #[exV b0 b1 b2 b3 b4 b5 bd bw] W fun e w' => e = .returned (.bool (Xs.freeB KX ⟨b0, b1, b2, b3, b4, b5, bd, bw⟩)) ∧ Below W.heap.size W w') := Lib.hid fun W h => expr_free ⟨b0, b1, b2, b3, b4, b5, bd, bw⟩ W h
  have HT := Lib.hid hT
  have H0 := Lib.hid S0
  obtain ⟨ac, af⟩ := S0.ka.facts
  rw [chk_ok hca] at HCa
  rw [chk_ok hcb] at HCb
  unfold Xs.daysB at hq
  obtain ⟨fa, hfa⟩ : ∃ fa, Xs.freeB KX ⟨a0, a1, a2, a3, a4, a5, ad, aw⟩ = fa := ⟨_, rfl⟩
  obtain ⟨fb, hfb⟩ : ∃ fb, Xs.freeB KX ⟨b0, b1, b2, b3, b4, b5, bd, bw⟩ = fb := ⟨_, rfl⟩
  rw [hfa] at HFa hq
  rw [hfb] at HFb hq
  cases fa with
  | true => rw [if_pos rfl] at hq; cases hq
  | false =>
  cases fb with
  | true => rw [if_neg (by decide), if_pos rfl] at hq; cases hq
  | false =>
  rw [if_neg (by decide), if_neg (by decide)] at hq
  have Hq := Lib.hid hq
  clear hT S0 ha hb hca hcb hfa hfb hq
  go_enter Tryz.func27, Tryz.ntmps27
  go_upto_region 1 with fail
  have e0 := HW0.out; unfold bothW at e0; rw [e0, ← hbE, ← hbB, ← hbA]; clear e0
  clear HW0 hbA hbB hbE
  go_upto_region 3 with (first
    | (go_at_call 23; (with_reducible refine (HCa.out _ H0.out.tb).mono ?_); clear HCa; rintro e w1 ⟨rfl, hb1⟩; have S1 := Lib.hid (H0.out.grow hb1); clear ac af hb1; obtain ⟨bc, bf⟩ := S1.out.kb.facts)
    | (go_at_call 23; (with_reducible refine (HCb.out _ S1.out.tb).mono ?_); clear HCb; rintro e w2 ⟨rfl, hb2⟩; have S2 := Lib.hid (S1.out.grow hb2); clear bc bf hb2; obtain ⟨bc, bf⟩ := S2.out.kb.facts))
  go_upto_region 4 with fail
  obtain ⟨W3, hW3⟩ : ∃ W3, w2.alloc (.cells (exC b0 b1 b2 b3 b4 b5 bd bw) 25) = W3 := ⟨_, rfl⟩
  obtain ⟨X, hX⟩ : ∃ X, X = w2.heap.size := ⟨_, rfl⟩
  have S3 := Lib.hid (S2.out.grow (show Below w2.heap.size w2 W3 from hW3 ▸ (Below.refl _ _).alloc (Nat.le_refl _) _))
  have HX3 : Hid (Blk W3 X 25 (exC b0 b1 b2 b3 b4 b5 bd bw)) := Lib.hid (hW3 ▸ hX ▸ Blk.new w2 _ _)
  have HN : Hid (bA ≠ X ∧ bB ≠ X ∧ bE ≠ X ∧ w.heap.size ≤ X) := Lib.hid ⟨by have := S2.out.ka.lt; omega, by have := S2.out.kb.lt; omega, by have := S2.out.ke.lt; omega, by have := S2.out.bl.size; omega⟩
  rw [hW3, ← hX]
  clear bc bf hX hW3
  obtain ⟨ac, af⟩ := S3.out.ka.facts
  go_upto_if 20 with (go_at_call 58; (with_reducible refine (HFa.out _ S3.out.tb).mono ?_); rintro e w4 ⟨rfl, hb4⟩; have S4 := Lib.hid (S3.out.grow hb4); have HX4 := Lib.hid (HX3.out.below hb4 HX3.out.lt); clear ac af hb4; obtain ⟨bc, bf⟩ := S4.out.kb.facts)
  go_upto_if 23 with (go_at_call 58; (with_reducible refine (HFb.out _ S4.out.tb).mono ?_); rintro e w5 ⟨rfl, hb5⟩; have S5 := Lib.hid (S4.out.grow hb5); have HX5 := Lib.hid (HX4.out.below hb5 HX4.out.lt); clear bc bf hb5; obtain ⟨ac, af⟩ := S5.out.ka.facts; obtain ⟨bc, bf⟩ := S5.out.kb.facts; obtain ⟨xc, xf⟩ := HX5.out.facts)
  cases ad <;> cases bd <;> first
    | (exfalso; have h := Hq.out; simp at h; done)
    | (cases aw <;> cases bw <;> first
        | (exfalso; have h := Hq.out; simp at h; done)
        | (by_cases e3 : a3 = b3
           · have t3 : ((a3 : Int) != (b3 : Int)) = false := by rw [e3]; simp
             by_cases e5 : a5 = b5
             · first
                 | (exfalso; have h := Hq.out; simp [e3, e5] at h; done)
                 | (have t5 : ((a5 : Int) != (b5 : Int)) = false := by rw [e5]; simp
                    clear e3 e5 Hq
                    go_upto_region 12 with fail
                    clear ac af bc bf xc xf
                    obtain ⟨ec, ef⟩ := S5.out.ke.facts
                    have hEf := S5.out.ke.set8 (.int .u64 0) (.int .u64 0) (.int .u64 0) (.int .u64 0) (.int .u64 0) (.int .u64 0) (.bool false) (.bool false)
                    have hBf := below_set8 S5.out.bl HAB.out.2.2.2 (.int .u64 0) (.int .u64 0) (.int .u64 0) (.int .u64 0) (.int .u64 0) (.int .u64 0) (.bool false) (.bool false)
                    have HF := Lib.hid (And.intro hEf hBf)
                    clear hEf hBf
                    go_wp2_with fail
                    obtain ⟨hEf, hBf⟩ := HF.out
                    clear ec ef HF
                    unfold put8 at hEf hBf
                    generalize World.setCell _ _ _ = WZ at hEf hBf ⊢
                    obtain ⟨ec, ef⟩ := hEf.facts
                    exact bodyPost_ret (v := .tuple #[exV 0 0 0 0 0 0 false false, .bool false, .int .i64 2]) (by simp [results, Tryz.results27, go_sem, ec, ef]) rfl ⟨rfl, hBf⟩)
             · have t5 : ((a5 : Int) != (b5 : Int)) = true := by rw [bne_iff_ne]; omega
               clear e3 e5 Hq
               go_upto_region 12 with fail
               clear ac af bc bf xc xf
               obtain ⟨ec, ef⟩ := S5.out.ke.facts
               have hEf := S5.out.ke.set8 (.int .u64 0) (.int .u64 0) (.int .u64 0) (.int .u64 0) (.int .u64 0) (.int .u64 0) (.bool false) (.bool false)
               have hBf := below_set8 S5.out.bl HAB.out.2.2.2 (.int .u64 0) (.int .u64 0) (.int .u64 0) (.int .u64 0) (.int .u64 0) (.int .u64 0) (.bool false) (.bool false)
               have HF := Lib.hid (And.intro hEf hBf)
               clear hEf hBf
               go_wp2_with fail
               obtain ⟨hEf, hBf⟩ := HF.out
               clear ec ef HF
               unfold put8 at hEf hBf
               generalize World.setCell _ _ _ = WZ at hEf hBf ⊢
               obtain ⟨ec, ef⟩ := hEf.facts
               exact bodyPost_ret (v := .tuple #[exV 0 0 0 0 0 0 false false, .bool false, .int .i64 2]) (by simp [results, Tryz.results27, go_sem, ec, ef]) rfl ⟨rfl, hBf⟩
           · have t3 : ((a3 : Int) != (b3 : Int)) = true := by rw [bne_iff_ne]; omega
             clear e3 Hq
             go_upto_region 12 with fail
             clear ac af bc bf xc xf
             obtain ⟨ec, ef⟩ := S5.out.ke.facts
             have hEf := S5.out.ke.set8 (.int .u64 0) (.int .u64 0) (.int .u64 0) (.int .u64 0) (.int .u64 0) (.int .u64 0) (.bool false) (.bool false)
             have hBf := below_set8 S5.out.bl HAB.out.2.2.2 (.int .u64 0) (.int .u64 0) (.int .u64 0) (.int .u64 0) (.int .u64 0) (.int .u64 0) (.bool false) (.bool false)
             have HF := Lib.hid (And.intro hEf hBf)
             clear hEf hBf
             go_wp2_with fail
             obtain ⟨hEf, hBf⟩ := HF.out
             clear ec ef HF
             unfold put8 at hEf hBf
             generalize World.setCell _ _ _ = WZ at hEf hBf ⊢
             obtain ⟨ec, ef⟩ := hEf.facts
             exact bodyPost_ret (v := .tuple #[exV 0 0 0 0 0 0 false false, .bool false, .int .i64 2]) (by simp [results, Tryz.results27, go_sem, ec, ef]) rfl ⟨rfl, hBf⟩))

set_option maxRecDepth 100000 in
set_option maxHeartbeats 8000000 in
theorem both_ok (a0 a1 a2 a3 a4 a5 : Nat) (ad aw : Bool) (b0 b1 b2 b3 b4 b5 : Nat) (bd bw : Bool) (w : World) (hT : Tabs w)
    (ha : SmallX ⟨a0, a1, a2, a3, a4, a5, ad, aw⟩) (hb : SmallX ⟨b0, b1, b2, b3, b4, b5, bd, bw⟩)
    (hca : Xs.checkB KX ⟨a0, a1, a2, a3, a4, a5, ad, aw⟩ = true) (hcb : Xs.checkB KX ⟨b0, b1, b2, b3, b4, b5, bd, bw⟩ = true)
    (d k : Nat) (x y : Bool) (hq : Xs.daysB KX ⟨a0, a1, a2, a3, a4, a5, ad, aw⟩ ⟨b0, b1, b2, b3, b4, b5, bd, bw⟩ = some (d, k, x, y)) :
    Calls Tryz.prog 27 #[exV a0 a1 a2 a3 a4 a5 ad aw, exV b0 b1 b2 b3 b4 b5 bd bw] w fun e w' => e = .returned (retB (Xs.bothV KX ⟨a0, a1, a2, a3, a4, a5, ad, aw⟩ ⟨b0, b1, b2, b3, b4, b5, bd, bw⟩)) ∧ Below w.heap.size w w' := by
  have HCa : Hid (∀ W, Tabs W → Calls Tryz.prog 23 #[exV a0 a1 a2 a3 a4 a5 ad aw] W fun e w' => e = .returned (.int .i64 (chk ⟨a0, a1, a2, a3, a4, a5, ad, aw⟩)) ∧ Below W.heap.size W w') := Lib.hid fun W h => expr_Check ⟨a0, a1, a2, a3, a4, a5, ad, aw⟩ W ha h
  have HCb : Hid (∀ W, Tabs W → Calls Tryz.prog 23 #[exV b0 b1 b2 b3 b4 b5 bd bw] W fun e w' => e = .returned (.int .i64 (chk ⟨b0, b1, b2, b3, b4, b5, bd, bw⟩)) ∧ Below W.heap.size W w') := Lib.hid fun W h => expr_Check ⟨b0, b1, b2, b3, b4, b5, bd, bw⟩ W hb h
  obtain ⟨W0, hW0⟩ : ∃ W0, bothW w (exC a0 a1 a2 a3 a4 a5 ad aw) (exC b0 b1 b2 b3 b4 b5 bd bw) = W0 := ⟨_, rfl⟩
  have S0 := both_laid w (exC a0 a1 a2 a3 a4 a5 ad aw) (exC b0 b1 b2 b3 b4 b5 bd bw) hT
  rw [hW0] at S0
  have HW0 := Lib.hid hW0
  clear hW0
  obtain ⟨bA, hbA⟩ : ∃ x, x = w.heap.size := ⟨_, rfl⟩
  obtain ⟨bB, hbB⟩ : ∃ x, x = w.heap.size + 1 := ⟨_, rfl⟩
  obtain ⟨bE, hbE⟩ : ∃ x, x = w.heap.size + 1 + 1 := ⟨_, rfl⟩
  rw [← hbE, ← hbB, ← hbA] at S0
  have HAB : Hid (bA ≠ bB ∧ bA ≠ bE ∧ bB ≠ bE ∧ w.heap.size ≤ bE) := Lib.hid ⟨by omega, by omega, by omega, by omega⟩
  have HFa : Hid (∀ W, Tabs W → Calls Tryz.prog 58 #[exV a0 a1 a2 a3 a4 a5 ad aw] W fun e w' => e = .returned (.bool (Xs.freeB KX ⟨a0, a1, a2, a3, a4, a5, ad, aw⟩)) ∧ Below W.heap.size W w') := Lib.hid fun W h => expr_free ⟨a0, a1, a2, a3, a4, a5, ad, aw⟩ W h
  have HFb : Hid (∀ W, Tabs W → Calls Tryz.prog 58 #[exV b0 b1 b2 b3 b4 b5 bd bw] W fun e w' => e = .returned (.bool (Xs.freeB KX ⟨b0, b1, b2, b3, b4, b5, bd, bw⟩)) ∧ Below W.heap.size W w') := Lib.hid fun W h => expr_free ⟨b0, b1, b2, b3, b4, b5, bd, bw⟩ W h
  have Hgood := Lib.hid (both_good hq)
  have Hzero := Lib.hid fun j => both_zero hq (k := j)
  generalize Xs.bothV KX ⟨a0, a1, a2, a3, a4, a5, ad, aw⟩ ⟨b0, b1, b2, b3, b4, b5, bd, bw⟩ = R at *
  obtain ⟨z, hz⟩ : ∃ z, Xs.joinE ⟨a0, a1, a2, a3, a4, a5, ad, aw⟩ ⟨b0, b1, b2, b3, b4, b5, bd, bw⟩ (d, k, x, y) = z := ⟨_, rfl⟩
  rw [hz] at Hgood Hzero
  have Hz := Lib.hid hz
  have HT := Lib.hid hT
  have H0 := Lib.hid S0
  obtain ⟨ac, af⟩ := S0.ka.facts
  rw [chk_ok hca] at HCa
  rw [chk_ok hcb] at HCb
  unfold Xs.daysB at hq
  obtain ⟨fa, hfa⟩ : ∃ fa, Xs.freeB KX ⟨a0, a1, a2, a3, a4, a5, ad, aw⟩ = fa := ⟨_, rfl⟩
  obtain ⟨fb, hfb⟩ : ∃ fb, Xs.freeB KX ⟨b0, b1, b2, b3, b4, b5, bd, bw⟩ = fb := ⟨_, rfl⟩
  rw [hfa] at HFa hq
  rw [hfb] at HFb hq
  have Hq := Lib.hid hq
  have hand0 := u64_and_nat a0 b0 (ha.set 0 (by decide)) (hb.set 0 (by decide))
  have hand1 := u64_and_nat a1 b1 (ha.set 1 (by decide)) (hb.set 1 (by decide))
  have hand2 := u64_and_nat a2 b2 (ha.set 2 (by decide)) (hb.set 2 (by decide))
  have hand3 := u64_and_nat a3 b3 (ha.set 3 (by decide)) (hb.set 3 (by decide))
  have hand4 := u64_and_nat a4 b4 (ha.set 4 (by decide)) (hb.set 4 (by decide))
  have hand5 := u64_and_nat a5 b5 (ha.set 5 (by decide)) (hb.set 5 (by decide))
  clear hT S0 ha hb hca hcb hfa hfb hq hz
  go_enter Tryz.func27, Tryz.ntmps27
  go_upto_region 1 with fail
  have e0 := HW0.out; unfold bothW at e0; rw [e0, ← hbE, ← hbB, ← hbA]; clear e0
  clear HW0 hbA hbB hbE
  go_upto_region 3 with (first
    | (go_at_call 23; (with_reducible refine (HCa.out _ H0.out.tb).mono ?_); clear HCa; rintro e w1 ⟨rfl, hb1⟩; have S1 := Lib.hid (H0.out.grow hb1); clear ac af hb1; obtain ⟨bc, bf⟩ := S1.out.kb.facts)
    | (go_at_call 23; (with_reducible refine (HCb.out _ S1.out.tb).mono ?_); clear HCb; rintro e w2 ⟨rfl, hb2⟩; have S2 := Lib.hid (S1.out.grow hb2); clear bc bf hb2; obtain ⟨bc, bf⟩ := S2.out.kb.facts))
  go_upto_block 0 with fail
  obtain ⟨W3, hW3⟩ : ∃ W3, w2.alloc (.cells (exC b0 b1 b2 b3 b4 b5 bd bw) 25) = W3 := ⟨_, rfl⟩
  obtain ⟨X, hX⟩ : ∃ X, X = w2.heap.size := ⟨_, rfl⟩
  have S3 := Lib.hid (S2.out.grow (show Below w2.heap.size w2 W3 from hW3 ▸ (Below.refl _ _).alloc (Nat.le_refl _) _))
  have HX3 : Hid (Blk W3 X 25 (exC b0 b1 b2 b3 b4 b5 bd bw)) := Lib.hid (hW3 ▸ hX ▸ Blk.new w2 _ _)
  have HN : Hid (bA ≠ X ∧ bB ≠ X ∧ bE ≠ X ∧ w.heap.size ≤ X) := Lib.hid ⟨by have := S2.out.ka.lt; omega, by have := S2.out.kb.lt; omega, by have := S2.out.ke.lt; omega, by have := S2.out.bl.size; omega⟩
  rw [hW3, ← hX]
  clear bc bf hX hW3
  obtain ⟨ac, af⟩ := S3.out.ka.facts
  go_cut [] (fun wx => BothS w (exC a0 a1 a2 a3 a4 a5 ad aw) (exC b0 b1 b2 b3 b4 b5 bd bw) bA bB bE wx ∧ ∃ s m h n, Blk wx X 25 (exC s m h d n k x y))
  case first =>
    cases fa with
    | true =>
      have h := Hq.out
      rw [if_pos rfl] at h
      simp only [Option.some.injEq, Prod.mk.injEq] at h
      obtain ⟨rfl, rfl, rfl, rfl⟩ := h
      clear HFb Hq
      go_wp2_with (go_at_call 58; (with_reducible refine (HFa.out _ S3.out.tb).mono ?_); rintro e w4 ⟨rfl, hb4⟩; have S4 := Lib.hid (S3.out.grow hb4); have HX4 := Lib.hid (HX3.out.below hb4 HX3.out.lt); clear ac af hb4; obtain ⟨bc, bf⟩ := S4.out.kb.facts)
      go_meet
      exact ⟨S4.out, _, _, _, _, HX4.out⟩
    | false =>
      cases fb with
      | true =>
        have h := Hq.out
        rw [if_neg (by decide), if_pos rfl] at h
        simp only [Option.some.injEq, Prod.mk.injEq] at h
        obtain ⟨rfl, rfl, rfl, rfl⟩ := h
        clear Hq
        go_wp2_with (first | (go_at_call 58; (with_reducible refine (HFa.out _ S3.out.tb).mono ?_); rintro e w4 ⟨rfl, hb4⟩; have S4 := Lib.hid (S3.out.grow hb4); have HX4 := Lib.hid (HX3.out.below hb4 HX3.out.lt); clear ac af hb4; obtain ⟨bc, bf⟩ := S4.out.kb.facts) | (go_at_call 58; (with_reducible refine (HFb.out _ S4.out.tb).mono ?_); rintro e w5 ⟨rfl, hb5⟩; have S5 := Lib.hid (S4.out.grow hb5); have HX5 := Lib.hid (HX4.out.below hb5 HX4.out.lt); clear bc bf hb5; obtain ⟨ac, af⟩ := S5.out.ka.facts; obtain ⟨bc, bf⟩ := S5.out.kb.facts; obtain ⟨xc, xf⟩ := HX5.out.facts))
        go_meet
        exact ⟨S5.out.set8X HT.out HN.out _ _ _ _ _ _ _ _, _, _, _, _, HX5.out.set8 _ _ _ _ _ _ _ _⟩
      | false =>
        go_upto_if 23 with (first | (go_at_call 58; (with_reducible refine (HFa.out _ S3.out.tb).mono ?_); rintro e w4 ⟨rfl, hb4⟩; have S4 := Lib.hid (S3.out.grow hb4); have HX4 := Lib.hid (HX3.out.below hb4 HX3.out.lt); clear ac af hb4; obtain ⟨bc, bf⟩ := S4.out.kb.facts) | (go_at_call 58; (with_reducible refine (HFb.out _ S4.out.tb).mono ?_); rintro e w5 ⟨rfl, hb5⟩; have S5 := Lib.hid (S4.out.grow hb5); have HX5 := Lib.hid (HX4.out.below hb5 HX4.out.lt); clear bc bf hb5; obtain ⟨ac, af⟩ := S5.out.ka.facts; obtain ⟨bc, bf⟩ := S5.out.kb.facts; obtain ⟨xc, xf⟩ := HX5.out.facts))
        have h := Hq.out
        rw [if_neg (by decide), if_neg (by decide)] at h
        clear Hq HFa HFb
        by_cases g1 : (ad && bd) = true
        · rw [if_pos g1] at h
          simp only [Option.some.injEq, Prod.mk.injEq] at h
          obtain ⟨rfl, rfl, rfl, rfl⟩ := h
          obtain ⟨rfl, rfl⟩ : ad = true ∧ bd = true := by simpa using g1
          clear g1
          go_wp2_with fail
          go_meet
          exact ⟨S5.out.setX HT.out HN.out 5 _, _, _, _, _, HX5.out.set_ 5 _⟩
        · rw [if_neg g1] at h
          by_cases g2 : (aw && bw) = true
          · rw [if_pos g2] at h
            simp only [Option.some.injEq, Prod.mk.injEq] at h
            obtain ⟨rfl, rfl, rfl, rfl⟩ := h
            obtain ⟨rfl, rfl⟩ : aw = true ∧ bw = true := by simpa using g2
            clear g2
            cases ad <;> cases bd <;> first
              | (exact absurd rfl g1)
              | (clear g1
                 go_wp2_with fail
                 go_meet
                 exact ⟨S5.out.setX HT.out HN.out 3 _, _, _, _, _, HX5.out.set_ 3 _⟩)
          · rw [if_neg g2] at h
            split at h
            · cases h
            · rename_i g3
              simp only [Option.some.injEq, Prod.mk.injEq] at h
              obtain ⟨rfl, rfl, rfl, rfl⟩ := h
              obtain ⟨rfl, rfl, rfl, rfl⟩ : ad = bd ∧ aw = bw ∧ a3 = b3 ∧ a5 = b5 := by
                simp at g3
                exact ⟨g3.1.1.1, g3.1.1.2, g3.1.2, g3.2⟩
              have e3 : ((a3 : Int) != (a3 : Int)) = false := by simp
              have e5 : ((a5 : Int) != (a5 : Int)) = false := by simp
              cases ad <;> cases aw <;> first
                | (exact absurd rfl g1)
                | (exact absurd rfl g2)
                | (clear g1 g2 g3
                   go_wp2_with fail
                   go_meet
                   exact ⟨S5.out, _, _, _, _, HX5.out⟩)
  case rest =>
    obtain ⟨hS, s, m, h, n, hX⟩ := hcut
    clear HFa HFb Hq
    have SC := Lib.hid hS
    have HXC := Lib.hid hX
    have c8 : wc.cell? ⟨bA, 0, none⟩ = some (.int .u64 a0) ∧ wc.cell? ⟨bB, 0, none⟩ = some (.int .u64 b0) ∧ wc.cell? ⟨bA, 1, none⟩ = some (.int .u64 a1) ∧ wc.cell? ⟨bB, 1, none⟩ = some (.int .u64 b1) ∧ wc.cell? ⟨bA, 2, none⟩ = some (.int .u64 a2) ∧ wc.cell? ⟨bB, 2, none⟩ = some (.int .u64 b2) ∧ wc.cell? ⟨bA, 4, none⟩ = some (.int .u64 a4) ∧ wc.cell? ⟨bB, 4, none⟩ = some (.int .u64 b4) := ⟨hS.ka.cell 0, hS.kb.cell 0, hS.ka.cell 1, hS.kb.cell 1, hS.ka.cell 2, hS.kb.cell 2, hS.ka.cell 4, hS.kb.cell 4⟩
    have hmu := yielded_undef
    clear hS hX
    go_upto_region 13 with fail
    obtain ⟨xc, xf⟩ := HXC.out.facts
    refine wp_region_held_drew (S := fun V => V.cell? ⟨bA, 0, none⟩ = some (.int .u64 a0) ∧ V.cell? ⟨bB, 0, none⟩ = some (.int .u64 b0) ∧ V.cell? ⟨bA, 1, none⟩ = some (.int .u64 a1) ∧ V.cell? ⟨bB, 1, none⟩ = some (.int .u64 b1) ∧ V.cell? ⟨bA, 2, none⟩ = some (.int .u64 a2) ∧ V.cell? ⟨bB, 2, none⟩ = some (.int .u64 b2) ∧ V.cell? ⟨bA, 4, none⟩ = some (.int .u64 a4) ∧ V.cell? ⟨bB, 4, none⟩ = some (.int .u64 b4)) (by kernel_rfl) ?hs101 (fun hHeld => ?rs101)
    case hs101 => exact s8_drew c8
    refine wpAnyH_take (i := 0) (oi := ?oi102) (v := ?vv102) ?hi102 (by kernel_rfl) (by kernel_rfl) (by kernel_rfl) ?hq102 (Or.inl ⟨?hw102, ?hy102⟩) (by assumption) ?rs102
    case hi102 => (simp only [Hg]; rfl)
    case hq102 => exact fun _ _ _ h => h
    case hw102 => rfl
    case hy102 => (intro w hSw; (try dsimp only at hSw); go_simp <;> with_reducible rfl)
    simp only [Hp]
    refine wpAnyH_take (i := 1) (oi := ?oi103) (v := ?vv103) ?hi103 (by kernel_rfl) (by kernel_rfl) (by kernel_rfl) ?hq103 (Or.inl ⟨?hw103, ?hy103⟩) (by assumption) ?rs103
    case hi103 => (simp only [Hg]; rfl)
    case hq103 => exact fun _ _ _ h => h
    case hw103 => rfl
    case hy103 => (intro w hSw; (try dsimp only at hSw); go_simp <;> with_reducible rfl)
    simp only [Hp]
    refine wpAnyH_take (i := 2) (oi := ?oi104) (v := ?vv104) ?hi104 (by kernel_rfl) (by kernel_rfl) (by kernel_rfl) ?hq104 (Or.inl ⟨?hw104, ?hy104⟩) (by assumption) ?rs104
    case hi104 => (simp only [Hg]; rfl)
    case hq104 => exact fun _ _ _ h => h
    case hw104 => rfl
    case hy104 => (intro w hSw; (try dsimp only at hSw); go_simp <;> with_reducible rfl)
    simp only [Hp]
    refine wpAnyH_take (i := 3) (oi := ?oi105) (v := ?vv105) ?hi105 (by kernel_rfl) (by kernel_rfl) (by kernel_rfl) ?hq105 (Or.inl ⟨?hw105, ?hy105⟩) (by assumption) ?rs105
    case hi105 => (simp only [Hg]; rfl)
    case hq105 => exact fun _ _ _ h => h
    case hw105 => rfl
    case hy105 => (intro w hSw; (try dsimp only at hSw); go_simp <;> with_reducible rfl)
    simp only [Hp]
    refine wpAnyH_take (i := 4) (oi := ?oi106) (v := ?vv106) ?hi106 (by kernel_rfl) (by kernel_rfl) (by kernel_rfl) ?hq106 (Or.inl ⟨?hw106, ?hy106⟩) (by assumption) ?rs106
    case hi106 => (simp only [Hg]; rfl)
    case hq106 => exact fun _ _ _ h => h
    case hw106 => rfl
    case hy106 => (intro w hSw; (try dsimp only at hSw); go_simp <;> with_reducible rfl)
    simp only [Hp]
    refine wpAnyH_take (i := 5) (oi := ?oi107) (v := ?vv107) ?hi107 (by kernel_rfl) (by kernel_rfl) (by kernel_rfl) ?hq107 (Or.inl ⟨?hw107, ?hy107⟩) (by assumption) ?rs107
    case hi107 => (simp only [Hg]; rfl)
    case hq107 => exact fun _ _ _ h => h
    case hw107 => rfl
    case hy107 => (intro w hSw; (try dsimp only at hSw); go_simp <;> with_reducible rfl)
    simp only [Hp]
    refine wpAnyH_take (i := 6) (oi := ?oi108) (v := ?vv108) ?hi108 (by kernel_rfl) (by kernel_rfl) (by kernel_rfl) ?hq108 (Or.inl ⟨?hw108, ?hy108⟩) (by assumption) ?rs108
    case hi108 => (simp only [Hg]; rfl)
    case hq108 => exact fun _ _ _ h => h
    case hw108 => rfl
    case hy108 => (intro w hSw; (try dsimp only at hSw); go_simp <;> with_reducible rfl)
    simp only [Hp]
    refine wpAnyH_take (i := 7) (oi := ?oi109) (v := ?vv109) ?hi109 (by kernel_rfl) (by kernel_rfl) (by kernel_rfl) ?hq109 (Or.inl ⟨?hw109, ?hy109⟩) (by assumption) ?rs109
    case hi109 => (simp only [Hg]; rfl)
    case hq109 => exact fun _ _ _ h => h
    case hw109 => rfl
    case hy109 => (intro w hSw; (try dsimp only at hSw); go_simp <;> with_reducible rfl)
    simp only [Hp]
    refine wpAnyH_take (i := 8) (oi := ?oi110) (v := ?vv110) ?hi110 (by kernel_rfl) (by kernel_rfl) (by kernel_rfl) ?hq110 (Or.inl ⟨?hw110, ?hy110⟩) (by assumption) ?rs110
    case hi110 => (simp only [Hg]; rfl)
    case hq110 => exact fun _ _ _ h => h
    case hw110 => rfl
    case hy110 => (intro w hSw; (try dsimp only at hSw); go_simp <;> with_reducible rfl)
    simp only [Hp]
    refine wpAnyH_take (i := 9) (oi := ?oi111) (v := ?vv111) ?hi111 (by kernel_rfl) (by kernel_rfl) (by kernel_rfl) ?hq111 (Or.inl ⟨?hw111, ?hy111⟩) (by assumption) ?rs111
    case hi111 => (simp only [Hg]; rfl)
    case hq111 => exact fun _ _ _ h => h
    case hw111 => rfl
    case hy111 => (intro w hSw; (try dsimp only at hSw); go_simp <;> with_reducible rfl)
    simp only [Hp]
    refine wpAnyH_take (i := 10) (oi := ?oi112) (v := ?vv112) ?hi112 (by kernel_rfl) (by kernel_rfl) (by kernel_rfl) ?hq112 (Or.inl ⟨?hw112, ?hy112⟩) (by assumption) ?rs112
    case hi112 => (simp only [Hg]; rfl)
    case hq112 => exact fun _ _ _ h => h
    case hw112 => rfl
    case hy112 => (intro w hSw; (try dsimp only at hSw); go_simp <;> with_reducible rfl)
    simp only [Hp]
    refine wpAnyH_take (i := 11) (oi := ?oi113) (v := ?vv113) ?hi113 (by kernel_rfl) (by kernel_rfl) (by kernel_rfl) ?hq113 (Or.inl ⟨?hw113, ?hy113⟩) (by assumption) ?rs113
    case hi113 => (simp only [Hg]; rfl)
    case hq113 => exact fun _ _ _ h => h
    case hw113 => rfl
    case hy113 => (intro w hSw; (try dsimp only at hSw); go_simp <;> with_reducible rfl)
    simp only [Hp]
    refine wpAnyH_take (i := 12) (oi := ?oi114) (v := ?vv114) ?hi114 (by kernel_rfl) (by kernel_rfl) (by kernel_rfl) ?hq114 (Or.inl ⟨?hw114, ?hy114⟩) (by assumption) ?rs114
    case hi114 => (simp only [Hg]; rfl)
    case hq114 => exact fun _ _ _ h => h
    case hw114 => rfl
    case hy114 => (intro w hSw; (try dsimp only at hSw); go_simp <;> with_reducible rfl)
    simp only [Hp]
    refine wpAnyH_take (i := 13) (oi := ?oi115) (v := ?vv115) ?hi115 (by kernel_rfl) (by kernel_rfl) (by kernel_rfl) ?hq115 (Or.inl ⟨?hw115, ?hy115⟩) (by assumption) ?rs115
    case hi115 => (simp only [Hg]; rfl)
    case hq115 => exact fun _ _ _ h => h
    case hw115 => rfl
    case hy115 => (intro w hSw; (try dsimp only at hSw); go_simp <;> with_reducible rfl)
    simp only [Hp]
    refine wpAnyH_take (i := 14) (oi := ?oi116) (v := ?vv116) ?hi116 (by kernel_rfl) (by kernel_rfl) (by kernel_rfl) ?hq116 (Or.inl ⟨?hw116, ?hy116⟩) (by assumption) ?rs116
    case hi116 => (simp only [Hg]; rfl)
    case hq116 => exact fun _ _ _ h => h
    case hw116 => rfl
    case hy116 => (intro w hSw; (try dsimp only at hSw); go_simp <;> with_reducible rfl)
    simp only [Hp]
    refine wpAnyH_take (i := 15) (oi := ?oi117) (v := ?vv117) ?hi117 (by kernel_rfl) (by kernel_rfl) (by kernel_rfl) ?hq117 (Or.inl ⟨?hw117, ?hy117⟩) (by assumption) ?rs117
    case hi117 => (simp only [Hg]; rfl)
    case hq117 => exact fun _ _ _ h => h
    case hw117 => rfl
    case hy117 => (intro w hSw; (try dsimp only at hSw); go_simp <;> with_reducible rfl)
    simp only [Hp]
    refine wpAnyH_take (i := 16) (oi := ?oi118) (v := ?vv118) ?hi118 (by kernel_rfl) (by kernel_rfl) (by kernel_rfl) ?hq118 (Or.inl ⟨?hw118, ?hy118⟩) (by assumption) ?rs118
    case hi118 => (simp only [Hg]; rfl)
    case hq118 => exact fun _ _ _ h => h
    case hw118 => rfl
    case hy118 => (intro w hSw; (try dsimp only at hSw); go_simp <;> with_reducible rfl)
    simp only [Hp]
    refine wpAnyH_take (i := 17) (oi := ?oi119) (v := ?vv119) ?hi119 (by kernel_rfl) (by kernel_rfl) (by kernel_rfl) ?hq119 (Or.inl ⟨?hw119, ?hy119⟩) (by assumption) ?rs119
    case hi119 => (simp only [Hg]; rfl)
    case hq119 => exact fun _ _ _ h => h
    case hw119 => rfl
    case hy119 => (intro w hSw; (try dsimp only at hSw); go_simp <;> with_reducible rfl)
    simp only [Hp]
    refine wpAnyH_take (i := 18) (oi := ?oi120) (v := ?vv120) ?hi120 (by kernel_rfl) (by kernel_rfl) (by kernel_rfl) ?hq120 (Or.inl ⟨?hw120, ?hy120⟩) (by assumption) ?rs120
    case hi120 => (simp only [Hg]; rfl)
    case hq120 => exact fun _ _ _ h => h
    case hw120 => rfl
    case hy120 => (intro w hSw; (try dsimp only at hSw); go_simp <;> with_reducible rfl)
    simp only [Hp]
    refine wpAnyH_take (i := 19) (oi := ?oi121) (v := ?vv121) ?hi121 (by kernel_rfl) (by kernel_rfl) (by kernel_rfl) ?hq121 (Or.inl ⟨?hw121, ?hy121⟩) (by assumption) ?rs121
    case hi121 => (simp only [Hg]; rfl)
    case hq121 => exact fun _ _ _ h => h
    case hw121 => rfl
    case hy121 => (intro w hSw; (try dsimp only at hSw); go_simp <;> with_reducible rfl)
    simp only [Hp]
    refine wpAnyH_take (i := 20) (oi := ?oi122) (v := ?vv122) ?hi122 (by kernel_rfl) (by kernel_rfl) (by kernel_rfl) ?hq122 (Or.inl ⟨?hw122, ?hy122⟩) (by assumption) ?rs122
    case hi122 => (simp only [Hg]; rfl)
    case hq122 => exact fun _ _ _ h => h
    case hw122 => rfl
    case hy122 => (intro w hSw; (try dsimp only at hSw); go_simp <;> with_reducible rfl)
    simp only [Hp]
    refine wpAnyH_ready (rs := [21]) (by kernel_rfl) (by simp) (AllReadyH.cons (o := ?oi123) ?hi123 (fun K hK => ?rs123) AllReadyH.nil)
    case hi123 => (simp only [Hg]; rfl)
    clear hHeld
    go_simp
    refine hK.out _ _ ?hs123 (fun hHeld => ?rt123)
    case hs123 => exact s8_drew (s8_far HN.out.1 HN.out.2.1 c8)
    clear hK K
    try simp only [Hp]
    refine wpAnyH_take (i := 22) (oi := ?oi124) (v := ?vv124) ?hi124 (by kernel_rfl) (by kernel_rfl) (by kernel_rfl) ?hq124 (Or.inl ⟨?hw124, ?hy124⟩) (by assumption) ?rs124
    case hi124 => (simp only [Hg]; rfl)
    case hq124 => exact fun _ _ _ h => h
    case hw124 => rfl
    case hy124 => (intro w hSw; (try dsimp only at hSw); go_simp <;> with_reducible rfl)
    simp only [Hp]
    refine wpAnyH_ready (rs := [23]) (by kernel_rfl) (by simp) (AllReadyH.cons (o := ?oi125) ?hi125 (fun K hK => ?rs125) AllReadyH.nil)
    case hi125 => (simp only [Hg]; rfl)
    clear hHeld
    go_simp
    refine hK.out _ _ ?hs125 (fun hHeld => ?rt125)
    case hs125 => exact s8_drew (s8_far HN.out.1 HN.out.2.1 (s8_far HN.out.1 HN.out.2.1 c8))
    clear hK K
    try simp only [Hp]
    refine wpAnyH_take (i := 24) (oi := ?oi126) (v := ?vv126) ?hi126 (by kernel_rfl) (by kernel_rfl) (by kernel_rfl) ?hq126 (Or.inl ⟨?hw126, ?hy126⟩) (by assumption) ?rs126
    case hi126 => (simp only [Hg]; rfl)
    case hq126 => exact fun _ _ _ h => h
    case hw126 => rfl
    case hy126 => (intro w hSw; (try dsimp only at hSw); go_simp <;> with_reducible rfl)
    simp only [Hp]
    refine wpAnyH_ready (rs := [25]) (by kernel_rfl) (by simp) (AllReadyH.cons (o := ?oi127) ?hi127 (fun K hK => ?rs127) AllReadyH.nil)
    case hi127 => (simp only [Hg]; rfl)
    clear hHeld
    go_simp
    refine hK.out _ _ ?hs127 (fun hHeld => ?rt127)
    case hs127 => exact s8_drew (s8_far HN.out.1 HN.out.2.1 (s8_far HN.out.1 HN.out.2.1 (s8_far HN.out.1 HN.out.2.1 c8)))
    clear hK K
    try simp only [Hp]
    refine wpAnyH_take (i := 26) (oi := ?oi128) (v := ?vv128) ?hi128 (by kernel_rfl) (by kernel_rfl) (by kernel_rfl) ?hq128 (Or.inl ⟨?hw128, ?hy128⟩) (by assumption) ?rs128
    case hi128 => (simp only [Hg]; rfl)
    case hq128 => exact fun _ _ _ h => h
    case hw128 => rfl
    case hy128 => (intro w hSw; (try dsimp only at hSw); go_simp <;> with_reducible rfl)
    simp only [Hp]
    refine wpAnyH_ready (rs := [27]) (by kernel_rfl) (by simp) (AllReadyH.cons (o := ?oi129) ?hi129 (fun K hK => ?rs129) AllReadyH.nil)
    case hi129 => (simp only [Hg]; rfl)
    clear hHeld
    go_simp
    refine hK.out _ _ ?hs129 (fun hHeld => ?rt129)
    case hs129 => exact s8_drew (s8_far HN.out.1 HN.out.2.1 (s8_far HN.out.1 HN.out.2.1 (s8_far HN.out.1 HN.out.2.1 (s8_far HN.out.1 HN.out.2.1 c8))))
    clear hK K
    try simp only [Hp]
    refine wpAnyH_done (by kernel_rfl) ?_ _
    have hJ := HXC.out.joinX (a0 &&& b0) (a1 &&& b1) (a2 &&& b2) (a4 &&& b4)
    have hSd := ((((SC.out.setX HT.out HN.out 0 (.int .u64 (a0 &&& b0 : Nat))).setX HT.out HN.out 1 (.int .u64 (a1 &&& b1 : Nat))).setX HT.out HN.out 2 (.int .u64 (a2 &&& b2 : Nat))).setX HT.out HN.out 4 (.int .u64 (a4 &&& b4 : Nat))).drew
    clear c8 xc xf hmu hand0 hand1 hand2 hand3 hand4 hand5
    go_upto_region 14 with fail
    generalize World.drew _ = WF at hJ hSd ⊢
    have SF := Lib.hid hSd
    have HJ := Lib.hid hJ
    clear hJ hSd SC HXC
    go_wp2_with (go_at_call 48; (with_reducible refine (expr_fields _ _).mono ?_); rintro e w6 ⟨rfl, hb6⟩; have S6 := Lib.hid (SF.out.grow hb6); have HX6 := Lib.hid (HJ.out.below hb6 HJ.out.lt); clear hb6)
    have HX7 : Hid (Blk w6 X 25 (exE z)) := Lib.hid (by rw [← Hz.out]; exact HX6.out)
    go_loopw [106] (fun i wr => ∃ j : Nat, j ≤ 6 ∧ i = .int .i64 j ∧ (∀ t, t < j → setX z t ≠ 0) ∧ wr = w6) (fun i _ => 6 - (intOf i).toNat)
    case atStart => exact ⟨0, Nat.zero_le _, rfl, fun t ht => absurd ht (Nat.not_lt_zero _), rfl⟩
    case round =>
      obtain ⟨j, hj6, rfl, hall, rfl⟩ := hrel
      have Hall := Lib.hid hall
      clear hall
      by_cases hj : j < 6
      · have hck : wr.cell? ⟨X, j, none⟩ = some (.int .u64 (setX z j)) := (HX7.out.cell j).trans (setX_cell z j hj)
        have hidx : ∀ W, (Instr.index 102 (ptrs X) (.int .i64 (j : Int))).run Tryz.prog W = .ok (.pointer (some ⟨X, j, none⟩)) W := fun W => index_ptrs X W j hj
        have hnext : setX z j ≠ 0 → ∀ t, t < j + 1 → setX z t ≠ 0 := fun h t ht => by
          rcases Nat.lt_or_ge t j with h1 | h1
          · exact Hall.out t h1
          · obtain rfl : t = j := by omega
            exact h
        have Hnext := Lib.hid hnext
        have HzJ := Lib.hid (Hzero.out j hj)
        clear hnext
        generalize setX z j = s at hck Hnext HzJ
        by_cases hs0 : s = 0
        · subst hs0
          have HR := Lib.hid (HzJ.out rfl)
          clear Hnext HzJ Hgood Hzero Hall
          go_upto_region 18 with fail
          clear hck hidx
          obtain ⟨ec, ef⟩ := S6.out.ke.facts
          have hEf := S6.out.ke.set8 (.int .u64 0) (.int .u64 0) (.int .u64 0) (.int .u64 0) (.int .u64 0) (.int .u64 0) (.bool false) (.bool false)
          have hBf := below_set8 S6.out.bl HAB.out.2.2.2 (.int .u64 0) (.int .u64 0) (.int .u64 0) (.int .u64 0) (.int .u64 0) (.int .u64 0) (.bool false) (.bool false)
          have HF := Lib.hid (And.intro hEf hBf)
          clear hEf hBf
          go_wp2_with fail
          obtain ⟨hEf, hBf⟩ := HF.out
          clear ec ef HF
          unfold put8 at hEf hBf
          generalize World.setCell _ _ _ = WZ at hEf hBf ⊢
          obtain ⟨ec, ef⟩ := hEf.facts
          exact bodyPost_ret (v := .tuple #[exV 0 0 0 0 0 0 false false, .bool false, .int .i64 0]) (by simp [results, Tryz.results27, go_sem, ec, ef]) rfl ⟨by rw [HR.out]; rfl, hBf⟩
        · have d0 : ((s : Int) == 0) = false := by rw [beq_eq_false_iff_ne]; omega
          have Hnx := Lib.hid (Hnext.out hs0)
          clear Hnext HzJ
          go_wp2_with fail
          go_roundw
          case rel => exact ⟨j + 1, by omega, by go_num, Hnx.out, trivial⟩
          case measure => simp [intOf]; omega
      · obtain rfl : j = 6 := by omega
        have HR := Lib.hid (Hgood.out Hall.out)
        have HzE : Hid (retB R = .tuple #[exV (a0 &&& b0) (a1 &&& b1) (a2 &&& b2) d (a4 &&& b4) k x y, .bool true, .int .i64 0]) := Lib.hid (by rw [HR.out, ← Hz.out]; rfl)
        clear Hall Hgood Hzero HX7 hj hj6 Hz
        go_upto_region 20 with fail
        obtain ⟨xc, xf⟩ := HX6.out.facts
        obtain ⟨ec, ef⟩ := S6.out.ke.facts
        have hEf := S6.out.ke.set8 (.int .u64 (a0 &&& b0 : Nat)) (.int .u64 (a1 &&& b1 : Nat)) (.int .u64 (a2 &&& b2 : Nat)) (.int .u64 d) (.int .u64 (a4 &&& b4 : Nat)) (.int .u64 k) (.bool x) (.bool y)
        have hBf := below_set8 S6.out.bl HAB.out.2.2.2 (.int .u64 (a0 &&& b0 : Nat)) (.int .u64 (a1 &&& b1 : Nat)) (.int .u64 (a2 &&& b2 : Nat)) (.int .u64 d) (.int .u64 (a4 &&& b4 : Nat)) (.int .u64 k) (.bool x) (.bool y)
        have HF := Lib.hid (And.intro hEf hBf)
        clear hEf hBf
        go_wp2_with fail
        obtain ⟨hEf, hBf⟩ := HF.out
        clear ec ef xc xf HF
        unfold put8 at hEf hBf
        generalize World.setCell _ _ _ = WZ at hEf hBf ⊢
        obtain ⟨ec, ef⟩ := hEf.facts
        exact bodyPost_ret (v := .tuple #[exV (a0 &&& b0) (a1 &&& b1) (a2 &&& b2) d (a4 &&& b4) k x y, .bool true, .int .i64 0]) (by simp [results, Tryz.results27, go_sem, ec, ef]) rfl ⟨by rw [HzE.out], hBf⟩


/-- Both, of two valid expressions. -/
theorem expr_Both (a b : Xs.Ex) (hca : Xs.checkB KX a = true) (hcb : Xs.checkB KX b = true) (w : World) (hT : Tabs w) :
    Calls Tryz.prog 27 #[exV a.second a.minute a.hour a.day a.month a.week a.anyDay a.anyWeek, exV b.second b.minute b.hour b.day b.month b.week b.anyDay b.anyWeek] w fun e w' => e = .returned (retB (Xs.bothV KX a b)) ∧ Below w.heap.size w w' := by
  have ha := small_of_check hca
  have hb := small_of_check hcb
  obtain ⟨a0, a1, a2, a3, a4, a5, ad, aw⟩ := a
  obtain ⟨b0, b1, b2, b3, b4, b5, bd, bw⟩ := b
  cases hq : Xs.daysB KX ⟨a0, a1, a2, a3, a4, a5, ad, aw⟩ ⟨b0, b1, b2, b3, b4, b5, bd, bw⟩ with
  | none =>
    refine (both_err a0 a1 a2 a3 a4 a5 ad aw b0 b1 b2 b3 b4 b5 bd bw w hT ha hb hca hcb hq).mono fun e w' h => ⟨h.1.trans ?_, h.2⟩
    rw [show Xs.bothV KX ⟨a0, a1, a2, a3, a4, a5, ad, aw⟩ ⟨b0, b1, b2, b3, b4, b5, bd, bw⟩ = (Xs.Ex.zero, false, 2) by unfold Xs.bothV; rw [hq]]
    rfl
  | some q =>
    obtain ⟨d, k, x, y⟩ := q
    exact both_ok a0 a1 a2 a3 a4 a5 ad aw b0 b1 b2 b3 b4 b5 bd bw w hT ha hb hca hcb d k x y hq
end Go.Proofs.YtjnlgaeedcklaaaGreatDoor
