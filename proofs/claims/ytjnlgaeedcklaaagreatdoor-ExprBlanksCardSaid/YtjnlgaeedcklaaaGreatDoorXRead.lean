/-
  The program's read: the words of a text as fields.
-/
import Derived.Test.YtjnlgaeedcklaaaGreatDoorXReadB
set_option linter.unusedVariables false
set_option linter.unusedSimpArgs false
namespace Go.Proofs.YtjnlgaeedcklaaaGreatDoor
open Go.RowKit Go.Shelf
attribute [local go_sem] Oper.semAt_some

/-- The post that lets no panic out. -/
def calm (Q : Exit → Act → World → Prop) : Exit → Act → World → Prop
  | .panic _, _, _ => False
  | e, a, w => Q e a w
theorem calm_le (Q : Exit → Act → World → Prop) : ∀ e a w, calm Q e a w → Q e a w := by
  intro e a w h
  cases e <;> first | exact h | exact h.elim
theorem calm_ret {Q : Exit → Act → World → Prop} {a : Act} {w : World} (h : Q .ret a w) : calm Q .ret a w := h
theorem drew_cell (W : World) (a : Addr) : W.drew.cell? a = W.cell? a := rfl
theorem cell_far1 {W : World} {b g o k : Nat} (h : b ≠ g) (y : Value) : (W.setCell ⟨g, k, none⟩ y).cell? ⟨b, o, none⟩ = W.cell? ⟨b, o, none⟩ := World.cell?_of_block (a := ⟨b, o, none⟩) (Below.heap_setCell W ⟨g, k, none⟩ y b h)
theorem cell_far8 {W : World} {b g o : Nat} (h : b ≠ g) (y0 y1 y2 y3 y4 y5 y6 y7 : Value) : (put8 W g y0 y1 y2 y3 y4 y5 y6 y7).cell? ⟨b, o, none⟩ = W.cell? ⟨b, o, none⟩ := by
  unfold put8
  rw [cell_far1 h, cell_far1 h, cell_far1 h, cell_far1 h, cell_far1 h, cell_far1 h, cell_far1 h, cell_far1 h]

set_option maxRecDepth 100000 in
set_option maxHeartbeats 64000000 in
theorem expr_read (s : ByteArray) (hs : s.size ≤ 100000) (w : World) (hT : Tabs w) :
    Calls Tryz.prog 42 #[.string s] w fun e w' => e = .returned (retX (Xs.read KX (Xs.words s.data.toList) s.size)) ∧ Below w.heap.size w w' := by
  have HT := Lib.hid hT
  clear hT
  refine callsIn_wide.1 (callsIn_of_wp_marks (F := Fence.wide) (n := 3) Tryz.func42 rfl trivial ?_)
  simp only [Tryz.ntmps42, List.size_toArray, List.length_cons, List.length_nil, Nat.reduceAdd, Nat.reduceSub, Array.replicate_succ, Array.replicate_zero, List.push_toArray, List.append_toArray, List.nil_append, List.cons_append]
  refine wpIn_wide.2 ?_
  refine Code.wp_mono (calm_le _) ?_
  generalize hQ : bodyPostM Fence.wide 3 Tryz.prog Tryz.f42 _ = Q
  have HQ := Lib.hid hQ; clear hQ
  go_wp2_with (go_at_call 40; (with_reducible refine (expr_words _ _).mono ?_); rintro e w1 ⟨rfl, rfl⟩)
  obtain ⟨hE, h1, h2, h3, h4, h5, hsz0, hbw⟩ := read_laid w s
  obtain ⟨W0, hW0⟩ : ∃ W0, rdW w s = W0 := ⟨_, rfl⟩
  unfold rdW at hW0
  rw [hW0]
  unfold rdW at hE h1 h2 h3 h4 h5 hsz0 hbw
  rw [hW0] at hE h1 h2 h3 h4 h5 hsz0 hbw
  clear hW0
  obtain ⟨b1, hb1⟩ : ∃ b, b = w.heap.size + 1 := ⟨_, rfl⟩
  obtain ⟨b2, hb2⟩ : ∃ b, b = w.heap.size + 1 + 1 := ⟨_, rfl⟩
  obtain ⟨b3, hb3⟩ : ∃ b, b = w.heap.size + 1 + 1 + 1 := ⟨_, rfl⟩
  obtain ⟨b4, hb4⟩ : ∃ b, b = w.heap.size + 1 + 1 + 1 + 1 := ⟨_, rfl⟩
  obtain ⟨b5, hb5⟩ : ∃ b, b = w.heap.size + 1 + 1 + 1 + 1 + 1 := ⟨_, rfl⟩
  rw [← hb5, ← hb4, ← hb3, ← hb2, ← hb1]
  have H1 : Hid (Blk W0 b1 3 #[.int .i64 0]) := Lib.hid (hb1 ▸ h1)
  have H2 : Hid (Blk W0 b2 26 #[.int .i64 0]) := Lib.hid (hb2 ▸ h2)
  have H3 : Hid (Blk W0 b3 58 #[.slice none 0 0]) := Lib.hid (hb3 ▸ h3)
  have H4 : Hid (Blk W0 b4 87 #[.slice none 0 0]) := Lib.hid (hb4 ▸ h4)
  have H5 : Hid (Blk W0 b5 9 #[.string s]) := Lib.hid (hb5 ▸ h5)
  obtain ⟨bE, hbE⟩ : ∃ b, b = w.heap.size := ⟨_, rfl⟩
  have HE : Hid (Blk W0 bE 25 zeroC) := Lib.hid (hbE ▸ hE)
  have HBW := Lib.hid hbw
  have l1 : bE < b1 := by omega
  have l2 : b1 < b2 := by omega
  have l3 : b2 < b3 := by omega
  have l4 : b3 < b4 := by omega
  have l5 : b4 < b5 := by omega
  have l6 : b5 < W0.heap.size := by omega
  have l0 : w.heap.size ≤ bE := by omega
  rw [← hbE]
  clear hE h1 h2 h3 h4 h5 hsz0 hbw hb1 hb2 hb3 hb4 hb5 hbE
  refine (wpIn_wide (n := 3)).1 ?_
  refine wpIn_rangeFunc_ownG (F := Fence.wide) (n := 3) rfl (by omega) (gf := 71) (lb := #[.pointer (some ⟨b5, 0, none⟩)]) rfl trivial (enters_of Tryz.func71 (by kernel_rfl) rfl) (words_stops 2 (by omega) b5 s hs W0 H5.out) (fun h k => h.trans k) ?hKb (Below.refl _ _) (fun _ => rfl)
    (RdI s.size w bE b1 b2 b3 b4 W0.heap.size) (fun c pre W => c = .ret ∧ RdX s.size w bE b1 b2 pre W) (rdI_own _ _ _ _ _ _ _ _ HBW.out.size) (rdX_own _ _ _ _ _ _ HBW.out.size)
    ⟨⟨⟨_, H3.out, World.ownsRow_nil _ _ _ _, Nat.zero_le _⟩, ⟨_, H4.out, World.ownsRow_nil _ _ _ _, trivial⟩⟩, ⟨⟨HE.out, H1.out⟩, H2.out⟩, HBW.out, Nat.le_refl _⟩ ?aa ?assign ?body ?done ?stop
  case hKb => exact fun W l o o' hl _ _ _ => ⟨by simp, World.putObj_heap_other (by omega)⟩
  case assign =>
    intro l x W K hK
    gi_wp2
    exact hK
  case body =>
    rintro l pre x W ⟨⟨⟨lv, hv, hrow, hle⟩, ⟨pv, hpv, hprow, _⟩⟩, ⟨⟨hE, h1⟩, h2⟩, hbw, hB⟩ hlen
    have hmix : Tryz.prog.follows .mixedOrders = true := by kernel_rfl
    obtain ⟨A, c, rfl⟩ := owns_slice hrow
    obtain ⟨A', c', rfl⟩ := owns_slice hprow
    have hvc := hv.cell
    have hvf := hv.frozen
    have hpc := hpv.cell
    have hpf := hpv.frozen
    by_cases h6 : pre.length = 6
    · have d6 : ((pre.length : Int) == 6) = true := by rw [beq_iff_eq]; omega
      have H6 := Lib.hid h6
      obtain ⟨ec, ef⟩ := hE.facts
      obtain ⟨c1, f1⟩ := h1.facts
      obtain ⟨c2, f2⟩ := h2.facts
      clear h6
      gi_wp2
      exact ⟨(ko_set (ko_set (ko_set8 (KeepsOthers.refl W) bE _ _ _ _ _ _ _ _) _ _) _ _).from _, rfl, ⟨x, ⟨by rw [List.length_append, H6.out]; rfl, by rw [List.getElem?_append_right (by rw [H6.out]; exact Nat.le_refl _), H6.out]; rfl⟩, ((h1.far8 (by omega) _ _ _ _ _ _ _ _).set_ 0 _).far (by show b1 ≠ b2; omega) _⟩,
        ⟨((hE.set8 _ _ _ _ _ _ _ _).far (by show bE ≠ b1; omega) _).far (by show bE ≠ b2; omega) _, ((h2.far8 (by omega) _ _ _ _ _ _ _ _).far (by show b2 ≠ b1; omega) _).set_ 0 _⟩, ((below_set8 hbw l0 _ _ _ _ _ _ _ _).setCell (by show w.heap.size ≤ b1; omega) _).setCell (by show w.heap.size ≤ b2; omega) _⟩
    · have d6 : ((pre.length : Int) == 6) = false := by rw [beq_eq_false_iff_ne]; omega
      have v3 := hv.lt
      have v4 := hpv.lt
      have v3' : b3 < W.heap.size + 1 := by omega
      have v4' : b4 < W.heap.size + 1 := by omega
      have HZ := Lib.hid (Two.drew (V := W) ⟨hv, hpv, hrow, hprow, KeepsOthers.refl _, Below.refl _ _, fun _ _ _ _ => rfl, hB, Nat.le_refl _, HBW.out.size⟩)
      have Hle : pre.length + 1 ≤ 6 := by omega
      obtain ⟨i0, hi0, hz0, hz1, hz2⟩ := info_parts info_str
      obtain ⟨j0, hj0, hy0, hy1, hy2⟩ := info_parts info_int
      clear h6
      gi_wp2
      refine region_in hmix (by rintro ⟨a, w, h⟩; exact h) (by intro i o c h hc; rcases i with _ | _ | _ | _ | _ | _ | _ | _ | _ | _ | i <;> simp at h <;> subst h <;> cases hc) ?_
      obtain ⟨Wd, hWd⟩ : ∃ Wd, W.drew = Wd := ⟨_, rfl⟩
      rw [hWd] at HZ ⊢
      clear hWd
      have p3c := HZ.out.h3.cell
      have p3f := HZ.out.h3.frozen
      have p4c := HZ.out.h4.cell
      have p4f := HZ.out.h4.frozen
      have p3 := HZ.out.h3.lt
      have p4 := HZ.out.h4.lt
      have p3' : b3 < Wd.heap.size + 1 := by omega
      have p4' : b4 < Wd.heap.size + 1 := by omega
      refine wpAny_take (i := 1) (v := .string x.1.2) rfl (by kernel_rfl) (by kernel_rfl) (by kernel_rfl) (fun _ _ _ h => h) (Or.inl ⟨by rfl, fun _ => rfl⟩) ?_
      refine wpAny_take (i := 5) (v := .int .i64 x.1.1) rfl (by kernel_rfl) (by kernel_rfl) (by kernel_rfl) (fun _ _ _ h => h) (Or.inl ⟨by rfl, fun _ => rfl⟩) ?_
      simp only [Act.put, List.setIfInBounds_toArray, List.set_cons_zero, List.set_cons_succ]
      --REGION
      all_goals (first
        | (refine wpAny_ready (rs := [0, 2, 4, 6]) (by decide +kernel) (by simp) (AllReady.cons rfl ?_ (AllReady.cons rfl ?_ (AllReady.cons rfl ?_ (AllReady.cons rfl ?_ (AllReady.nil)))))))
      all_goals (intro K hK; first
        | (go_simp; refine hK _ _ ?_; clear hK K))
      all_goals (first
        | (refine wpAny_ready (rs := [0, 2, 4]) (by decide +kernel) (by simp) (AllReady.cons rfl ?_ (AllReady.cons rfl ?_ (AllReady.cons rfl ?_ (AllReady.nil)))))
        | (refine wpAny_ready (rs := [0, 2, 6]) (by decide +kernel) (by simp) (AllReady.cons rfl ?_ (AllReady.cons rfl ?_ (AllReady.cons rfl ?_ (AllReady.nil)))))
        | (refine wpAny_ready (rs := [0, 4, 6]) (by decide +kernel) (by simp) (AllReady.cons rfl ?_ (AllReady.cons rfl ?_ (AllReady.cons rfl ?_ (AllReady.nil)))))
        | (refine wpAny_ready (rs := [2, 4, 6]) (by decide +kernel) (by simp) (AllReady.cons rfl ?_ (AllReady.cons rfl ?_ (AllReady.cons rfl ?_ (AllReady.nil))))))
      all_goals (intro K hK; first
        | (go_simp; refine hK _ _ ?_; clear hK K))
      all_goals (first
        | (refine wpAny_ready (rs := [0, 2]) (by decide +kernel) (by simp) (AllReady.cons rfl ?_ (AllReady.cons rfl ?_ (AllReady.nil))))
        | (refine wpAny_ready (rs := [0, 4]) (by decide +kernel) (by simp) (AllReady.cons rfl ?_ (AllReady.cons rfl ?_ (AllReady.nil))))
        | (refine wpAny_ready (rs := [0, 6]) (by decide +kernel) (by simp) (AllReady.cons rfl ?_ (AllReady.cons rfl ?_ (AllReady.nil))))
        | (refine wpAny_ready (rs := [2, 4]) (by decide +kernel) (by simp) (AllReady.cons rfl ?_ (AllReady.cons rfl ?_ (AllReady.nil))))
        | (refine wpAny_ready (rs := [2, 6]) (by decide +kernel) (by simp) (AllReady.cons rfl ?_ (AllReady.cons rfl ?_ (AllReady.nil))))
        | (refine wpAny_ready (rs := [3, 4, 6]) (by decide +kernel) (by simp) (AllReady.cons rfl ?_ (AllReady.cons rfl ?_ (AllReady.cons rfl ?_ (AllReady.nil))))))
      all_goals (intro K hK; first
        | (refine step_append_lies _ rfl _ _ 58 rfl W0.heap.size 9 i0 _ 1 16 Tryz.underlying58 hi0 hz0 hz1 hz2 rfl (by decide) _ pre.length (pre.map fun x => Value.string x.1.2) rfl (by first | exact (HZ.out.alloc _).r3 | exact ((HZ.out.alloc _).alloc _).r3) _ 1 1 [Value.string x.1.2] rfl rfl (by intro j u hj; rcases j with _ | j <;> simp at hj; subst hj; first | (go_simp; done) | exact hgrow1.cell (a := ⟨_, 0, none⟩) (by go_simp) (own_new HZ.out.r3 (by simp))) (by intro u hu; simp at hu; subst hu; rfl) (by omega) (by unfold maxLen; omega) (by omega) (by first | exact Nat.le_trans HZ.out.n0 (HZ.out.alloc _).sz | exact Nat.le_trans HZ.out.n0 ((HZ.out.alloc _).alloc _).sz) _ rfl ?_; intro g1 cap1 w1 hown1 hgrow1 hat1 hlt1; refine hK _ _ ?_; clear hK K; have HZ1 := Lib.hid (Two.grown3 (by first | exact HZ.out | exact HZ.out.alloc _ | exact (HZ.out.alloc _).alloc _) hown1 hgrow1); have q3c := HZ1.out.h3.cell; have q3f := HZ1.out.h3.frozen; have q4c := HZ1.out.h4.cell; have q4f := HZ1.out.h4.frozen; have q3 := HZ1.out.h3.lt; have q4 := HZ1.out.h4.lt)
        | (go_simp; refine hK _ _ ?_; clear hK K))
      all_goals (first
        | (refine wpAny_ready (rs := [0]) (by decide +kernel) (by simp) (AllReady.cons rfl ?_ (AllReady.nil)))
        | (refine wpAny_ready (rs := [2]) (by decide +kernel) (by simp) (AllReady.cons rfl ?_ (AllReady.nil)))
        | (refine wpAny_ready (rs := [3, 4]) (by decide +kernel) (by simp) (AllReady.cons rfl ?_ (AllReady.cons rfl ?_ (AllReady.nil))))
        | (refine wpAny_ready (rs := [3, 6]) (by decide +kernel) (by simp) (AllReady.cons rfl ?_ (AllReady.cons rfl ?_ (AllReady.nil))))
        | (refine wpAny_ready (rs := [4, 6]) (by decide +kernel) (by simp) (AllReady.cons rfl ?_ (AllReady.cons rfl ?_ (AllReady.nil)))))
      all_goals (intro K hK; first
        | (refine step_append_lies _ rfl _ _ 58 rfl W0.heap.size 9 i0 _ 1 16 Tryz.underlying58 hi0 hz0 hz1 hz2 rfl (by decide) _ pre.length (pre.map fun x => Value.string x.1.2) rfl (by first | exact (HZ.out.alloc _).r3 | exact ((HZ.out.alloc _).alloc _).r3) _ 1 1 [Value.string x.1.2] rfl rfl (by intro j u hj; rcases j with _ | j <;> simp at hj; subst hj; first | (go_simp; done) | exact hgrow1.cell (a := ⟨_, 0, none⟩) (by go_simp) (own_new HZ.out.r3 (by simp))) (by intro u hu; simp at hu; subst hu; rfl) (by omega) (by unfold maxLen; omega) (by omega) (by first | exact Nat.le_trans HZ.out.n0 (HZ.out.alloc _).sz | exact Nat.le_trans HZ.out.n0 ((HZ.out.alloc _).alloc _).sz) _ rfl ?_; intro g1 cap1 w1 hown1 hgrow1 hat1 hlt1; refine hK _ _ ?_; clear hK K; have HZ1 := Lib.hid (Two.grown3 (by first | exact HZ.out | exact HZ.out.alloc _ | exact (HZ.out.alloc _).alloc _) hown1 hgrow1); have q3c := HZ1.out.h3.cell; have q3f := HZ1.out.h3.frozen; have q4c := HZ1.out.h4.cell; have q4f := HZ1.out.h4.frozen; have q3 := HZ1.out.h3.lt; have q4 := HZ1.out.h4.lt)
        | (go_simp; refine hK _ _ ?_; clear hK K))
      all_goals (first
        | (refine wpAny_ready (rs := [3]) (by decide +kernel) (by simp) (AllReady.cons rfl ?_ (AllReady.nil)))
        | (refine wpAny_ready (rs := [4]) (by decide +kernel) (by simp) (AllReady.cons rfl ?_ (AllReady.nil)))
        | (refine wpAny_ready (rs := [6]) (by decide +kernel) (by simp) (AllReady.cons rfl ?_ (AllReady.nil))))
      all_goals (intro K hK; first
        | (refine step_append_lies _ rfl _ _ 58 rfl W0.heap.size 9 i0 _ 1 16 Tryz.underlying58 hi0 hz0 hz1 hz2 rfl (by decide) _ pre.length (pre.map fun x => Value.string x.1.2) rfl (by first | exact (HZ.out.alloc _).r3 | exact ((HZ.out.alloc _).alloc _).r3) _ 1 1 [Value.string x.1.2] rfl rfl (by intro j u hj; rcases j with _ | j <;> simp at hj; subst hj; first | (go_simp; done) | exact hgrow1.cell (a := ⟨_, 0, none⟩) (by go_simp) (own_new HZ.out.r3 (by simp))) (by intro u hu; simp at hu; subst hu; rfl) (by omega) (by unfold maxLen; omega) (by omega) (by first | exact Nat.le_trans HZ.out.n0 (HZ.out.alloc _).sz | exact Nat.le_trans HZ.out.n0 ((HZ.out.alloc _).alloc _).sz) _ rfl ?_; intro g1 cap1 w1 hown1 hgrow1 hat1 hlt1; refine hK _ _ ?_; clear hK K; have HZ1 := Lib.hid (Two.grown3 (by first | exact HZ.out | exact HZ.out.alloc _ | exact (HZ.out.alloc _).alloc _) hown1 hgrow1); have q3c := HZ1.out.h3.cell; have q3f := HZ1.out.h3.frozen; have q4c := HZ1.out.h4.cell; have q4f := HZ1.out.h4.frozen; have q3 := HZ1.out.h3.lt; have q4 := HZ1.out.h4.lt)
        | (go_simp; refine hK _ _ ?_; clear hK K))
      all_goals (first
        | (refine wpAny_ready (rs := [7]) (by decide +kernel) (by simp) (AllReady.cons rfl ?_ (AllReady.nil))))
      all_goals (intro K hK; first
        | (refine step_append_lies _ rfl _ _ 87 rfl W0.heap.size 3 j0 _ 1 8 Tryz.underlying87 hj0 hy0 hy1 hy2 rfl (by decide) _ pre.length (pre.map fun x => Value.int .i64 x.1.1) rfl (by first | exact HZ1.out.r4 | exact (HZ1.out.alloc _).r4) _ 1 1 [Value.int .i64 x.1.1] rfl rfl (by intro j u hj; rcases j with _ | j <;> simp at hj; subst hj; first | (go_simp; done) | exact hgrow1.cell (a := ⟨_, 0, none⟩) (by go_simp) (own_new HZ.out.r3 (by simp))) (by intro u hu; simp at hu; subst hu; rfl) (by omega) (by unfold maxLen; omega) (by omega) (by first | exact Nat.le_trans HZ1.out.n0 HZ1.out.sz | exact Nat.le_trans HZ1.out.n0 (HZ1.out.alloc _).sz) _ rfl ?_; intro g2 cap2 w2 hown2 hgrow2 hat2 hlt2; refine hK _ _ ?_; clear hK K; have HZ2 := Lib.hid (Two.grown4 (by first | exact HZ1.out | exact HZ1.out.alloc _) hown2 hgrow2); have r3c := HZ2.out.h3.cell; have r3f := HZ2.out.h3.frozen; have r4c := HZ2.out.h4.cell; have r4f := HZ2.out.h4.frozen; have r3 := HZ2.out.h3.lt; have r4 := HZ2.out.h4.lt))
      all_goals (first
        | (refine wpAny_ready (rs := [8]) (by decide +kernel) (by simp) (AllReady.cons rfl ?_ (AllReady.nil))))
      all_goals (intro K hK; first
        | (go_simp; refine hK _ _ ?_; clear hK K))
      all_goals (first
        | (refine wpAny_ready (rs := [9]) (by decide +kernel) (by simp) (AllReady.cons rfl ?_ (AllReady.nil))))
      all_goals (intro K hK; first
        | (go_simp; refine hK _ _ ?_; clear hK K))
      all_goals (refine wpAny_done (by decide +kernel) ?_ _)
      all_goals (exact rd_close pre x ((HZ2.out.set3 (by omega) (by omega) (.slice (some ⟨g1, 0, none⟩) (pre.length + 1) cap1)).set4 (by omega) (by omega) (.slice (some ⟨g2, 0, none⟩) (pre.length + 1) cap2)) l1 l2 l3 l4 l5 l6 l0 Hle hE h1 h2 hbw)
      --END
  case done =>
    rename_i K hK
    rintro D xs W hD hS ⟨⟨⟨lv, hv, hrow, hle⟩, ⟨pv, hpv, hprow, _⟩⟩, ⟨⟨hE, h1⟩, h2⟩, hbw, hB⟩ hdef
    obtain ⟨A, c, rfl⟩ := owns_slice hrow
    obtain ⟨A', c', rfl⟩ := owns_slice hprow
    have hvc := hv.cell
    have hvf := hv.frozen
    have hpc := hpv.cell
    have hpf := hpv.frozen
    refine hK _ _ ?_
    clear hK K
    have hws : (Xs.words s.data.toList).length = xs.length := by rw [← hS, List.length_map]
    by_cases h5 : xs.length < 5
    · have t5 : decide (xs.length < 5) = true := decide_eq_true h5
      have t5' : decide ((xs.length : Int) < 5) = true := decide_eq_true (by omega)
      have HR := Lib.hid (retX_zero (r := Xs.read KX (Xs.words s.data.toList) s.size) (p := s.size) (e := 10) (by rw [Xs.read, if_pos (by omega)]))
      obtain ⟨ec, ef⟩ := hE.facts
      obtain ⟨c1, f1⟩ := h1.facts
      obtain ⟨c2, f2⟩ := h2.facts
      have hEf := (((hE.set8 (.int .u64 0) (.int .u64 0) (.int .u64 0) (.int .u64 0) (.int .u64 0) (.int .u64 0) (.bool false) (.bool false)).far (p := ⟨b1, 0, none⟩) (by show bE ≠ b1; omega) (.int .i64 s.size)).far (p := ⟨b2, 0, none⟩) (by show bE ≠ b2; omega) (.int .i64 10))
      have h1f := (((h1.far8 (show b1 ≠ bE by omega) (.int .u64 0) (.int .u64 0) (.int .u64 0) (.int .u64 0) (.int .u64 0) (.int .u64 0) (.bool false) (.bool false)).set_ 0 (.int .i64 s.size)).far (p := ⟨b2, 0, none⟩) (by show b1 ≠ b2; omega) (.int .i64 10))
      have h2f := (((h2.far8 (show b2 ≠ bE by omega) (.int .u64 0) (.int .u64 0) (.int .u64 0) (.int .u64 0) (.int .u64 0) (.int .u64 0) (.bool false) (.bool false)).far (p := ⟨b1, 0, none⟩) (by show b2 ≠ b1; omega) (.int .i64 s.size)).set_ 0 (.int .i64 10))
      have hbf := ((below_set8 hbw l0 (.int .u64 0) (.int .u64 0) (.int .u64 0) (.int .u64 0) (.int .u64 0) (.int .u64 0) (.bool false) (.bool false)).setCell (p := ⟨b1, 0, none⟩) (by show w.heap.size ≤ b1; omega) (.int .i64 s.size)).setCell (p := ⟨b2, 0, none⟩) (by show w.heap.size ≤ b2; omega) (.int .i64 10)
      have hdf : (((put8 W bE (.int .u64 0) (.int .u64 0) (.int .u64 0) (.int .u64 0) (.int .u64 0) (.int .u64 0) (.bool false) (.bool false)).setCell ⟨b1, 0, none⟩ (.int .i64 s.size)).setCell ⟨b2, 0, none⟩ (.int .i64 10)).heap[D]? = some (.deferred (some [])) := ((ko_set (ko_set (ko_set8 (KeepsOthers.refl W) bE _ _ _ _ _ _ _ _) _ _) _ _).same D _ hdef rfl)
      have H5 := Lib.hid (And.intro hEf (And.intro h1f (And.intro h2f (And.intro hbf hdf))))
      clear hws hS hrow hprow hE h1 h2 hbw hdef h5 hEf h1f h2f hbf hdf
      go_wp2
      obtain ⟨hEf, h1f, h2f, hbf, hdf⟩ := H5.out
      clear ec ef c1 f1 c2 f2 hvc hvf hpc hpf
      obtain ⟨ec, ef⟩ := (hEf.putObj (D := D) (by omega) (.deferred none)).facts
      obtain ⟨c1, f1⟩ := (h1f.putObj (D := D) (by omega) (.deferred none)).facts
      obtain ⟨c2, f2⟩ := (h2f.putObj (D := D) (by omega) (.deferred none)).facts
      have HB := Lib.hid (below_put hbf (Nat.le_trans HBW.out.size hD) (.deferred none))
      have HD := Lib.hid hdf
      clear hEf h1f h2f hbf hdf H5
      refine calm_ret ?_
      rw [← HQ.out]
      refine ⟨by simp, .inl ⟨D, _, rfl, run_takeDeferred HD.out, .tuple #[exV 0 0 0 0 0 0 false false, .int .i64 s.size, .int .i64 10], ?_, ?_⟩⟩
      · clear HR HB HD HQ HT
        generalize World.putObj _ _ _ = WF at *
        simp [results, Tryz.results42, go_sem, ec, ef, c1, f1, c2, f2]
      · exact ⟨by rw [HR.out], HB.out⟩
    · have f5 : decide (xs.length < 5) = false := decide_eq_false h5
      have f5' : decide ((xs.length : Int) < 5) = false := decide_eq_false (by omega)
      have n5 : (6 : Int) - (xs.length : Int) = ((6 - xs.length : Nat) : Int) := by omega
      obtain ⟨f, hf⟩ : ∃ f, f = 6 - xs.length := ⟨_, rfl⟩
      rw [← hf] at n5
      have Hxl : Hid (xs.length + f = 6) := Lib.hid (by omega)
      have hf1 : f ≤ 1 := by omega
      clear hf
      have HS := Lib.hid hS
      have Hrow := Lib.hid hrow
      have Hprow := Lib.hid hprow
      have HE1 := Lib.hid hE
      have HE2 := Lib.hid h1
      have HE3 := Lib.hid h2
      have HB1 := Lib.hid hbw
      have HD := Lib.hid hdef
      have w3 := hv.lt
      have w4 := hpv.lt
      clear hws hS hrow hprow hE h1 h2 hbw hdef h5
      have TW : Hid (Tabs W) := Lib.hid (HT.out.grow HB1.out)
      have T1 : Hid (Tabs (W.alloc (.cells (exC 1 0 0 0 0 0 false false) 25))) := Lib.hid (TW.out.alloc _)
      go_wp2_with (first
        | (go_at_call 32; (with_reducible refine (field_Six _ (T1.out.grow HB2.out)).mono ?_); rintro e wS ⟨g, m, d, rfl, hb3, h6, hm, hd⟩
           have HB3 : Hid (Below W.heap.size W wS) := Lib.hid ((((Below.refl _ W).alloc (Nat.le_refl _) _).trans (HB2.out.mono (by simp))).trans (hb3.mono (Nat.le_trans (by simp) HB2.out.size)))
           have HX3 : Hid (Blk wS W.heap.size 25 (exC 1 0 0 0 0 0 false false)) := Lib.hid (((Blk.new W _ _).below HB2.out (by simp)).below hb3 (Nat.lt_of_lt_of_le (by simp) HB2.out.size))
           have H6 := Lib.hid h6; have HM := Lib.hid (And.intro (Nat.lt_of_lt_of_le (by simp) (Nat.le_trans HB2.out.size hm)) (Nat.lt_of_lt_of_le (by simp) (Nat.le_trans HB2.out.size hd)) : W.heap.size < m ∧ W.heap.size < d)
           have q3c := (HB3.out.cell (p := ⟨b3, 0, none⟩) w3).trans hvc
           have q3s : b3 < wS.heap.size := Nat.lt_of_lt_of_le w3 HB3.out.size
           clear hb3 h6 hm hd)
        | (go_at_call 48; (with_reducible refine (expr_fields _ _).mono ?_); rintro e w2 ⟨rfl, hb2⟩; have HB2 := Lib.hid hb2; clear hb2))
      obtain ⟨W4, hW4⟩ : ∃ W4, wS.alloc (.cells #[.pointer (some ⟨W.heap.size, 0, none⟩), .pointer (some ⟨W.heap.size, 1, none⟩), .pointer (some ⟨W.heap.size, 2, none⟩), .pointer (some ⟨W.heap.size, 3, none⟩), .pointer (some ⟨W.heap.size, 4, none⟩), .pointer (some ⟨W.heap.size, 5, none⟩)] 102) = W4 := ⟨_, rfl⟩
      go_loopw [50] (fun i wr => ∃ (k : Nat) (l : List (Nat × Bool)), k ≤ xs.length ∧ i = .int .i64 k ∧ Xs.fields KX f ((xs.take k).map encW) = .ok l ∧ l.length = k ∧ Kp (fun j => j = W.heap.size) W4 wr ∧ Blk wr W.heap.size 25 (exE (Xs.partX Xs.Ex.one f l))) (fun i _ => 6 - (intOf i).toNat)
      case atStart => exact ⟨0, [], Nat.zero_le _, rfl, rfl, rfl, by rw [← hW4]; exact Kp.refl _ _, HX3.out.alloc _⟩
      case round =>
        obtain ⟨k, l, hk6, rfl, hok, hlk, hkp, hX⟩ := hrel
        have hlow : ∀ b, b < W.heap.size → wr.heap[b]? = W.heap[b]? := fun b hb => (hkp.block b (by rw [← hW4]; have := HB3.out.size; simp; omega) (show ¬ (b = W.heap.size) by omega)).trans (by rw [← hW4]; exact (Below.heap_alloc wS _ b (Nat.lt_of_lt_of_le hb HB3.out.size)).trans (HB3.out.block b hb))
        have S4 : SixAt W4 g m d := by rw [← hW4]; exact H6.out.grow ((Below.refl _ _).alloc (Nat.le_refl _) _)
        have X4 : Blk W4 W.heap.size 25 (exC 1 0 0 0 0 0 false false) := by rw [← hW4]; exact HX3.out.alloc _
        have hsix : SixAt wr g m d := S4.kp hkp X4 rfl HM.out.1 HM.out.2
        have P4 : wS.heap.size < W4.heap.size := by rw [← hW4]; simp
        have hpt : Blk W4 wS.heap.size 102 #[.pointer (some ⟨W.heap.size, 0, none⟩), .pointer (some ⟨W.heap.size, 1, none⟩), .pointer (some ⟨W.heap.size, 2, none⟩), .pointer (some ⟨W.heap.size, 3, none⟩), .pointer (some ⟨W.heap.size, 4, none⟩), .pointer (some ⟨W.heap.size, 5, none⟩)] := by rw [← hW4]; exact Blk.new _ _ _
        have hpr := hpt.kp hkp (show ¬ (wS.heap.size = W.heap.size) by have := HX3.out.lt; omega)
        have hTr : Tabs wr := TW.out.of_heap (Nat.le_trans HB3.out.size (Nat.le_trans (Nat.le_of_lt P4) hkp.size)) (fun i hi => hlow i (by have := TW.out.size; omega))
        have HTr := Lib.hid hTr
        have HS6 := Lib.hid hsix
        have HKP := Lib.hid hkp
        have HLOW := Lib.hid hlow
        have HX := Lib.hid hX
        have HPR := Lib.hid hpr
        have HOK := Lib.hid hok
        clear hlow S4 X4 hsix P4 hpt hpr hTr hkp hX hok
        by_cases hk : k < xs.length
        · have hx : xs[k]? = some xs[k] := List.getElem?_eq_getElem hk
          obtain ⟨x, hxx⟩ : ∃ x, xs[k] = x := ⟨_, rfl⟩
          rw [hxx] at hx
          have Hx := Lib.hid hx
          obtain ⟨ga, rfl, hnc, hga, hcell⟩ := row_cell (k := k) (u := .string x.1.2) Hrow.out (by rw [List.getElem?_map, hx]; rfl)
          have hck : wr.cell? ⟨ga, k, none⟩ = some (.string x.1.2) := (World.cell?_of_block (a := ⟨ga, k, none⟩) (HLOW.out ga hga)).trans hcell
          obtain ⟨i, hi⟩ : ∃ i, i = f + k := ⟨_, rfl⟩
          have hi6 : i < 6 := by have := Hxl.out; omega
          obtain ⟨lo, hi', A2, c2, l2, week, hkx⟩ := HS6.out.kx i hi6
          have HKX := Lib.hid hkx
          have hg := HS6.out.lt
          have k0 := hkx.c0
          have k1 := hkx.c1
          have k2 := hkx.c2
          have k3 := hkx.c3
          have hfk : (f : Int) + (k : Int) = (i : Int) := by omega
          have Hi := Lib.hid hi
          obtain ⟨st, sb, pl, er, hp⟩ : ∃ st sb pl er, Fs.parse (KX i) x.1.2.data.toList = (st, sb, pl, er) := ⟨_, _, _, _, rfl⟩
          have HP := Lib.hid hp
          have HPa : Hid (∀ W, Below wr.heap.size wr W → Calls Tryz.prog 33 #[.agg #[.int .i64 lo, .int .i64 hi', .slice A2 l2.length c2, .bool week], .string x.1.2] W fun e w' => e = .returned (.tuple #[.int .u64 st, .bool sb, .int .i64 pl, .int .i64 er]) ∧ Below W.heap.size W w') :=
            Lib.hid fun W hW => by
              have := kx_Parse (HKX.out.grow hg hW) x.1.2 (by have := x.2.2; omega) (HTr.out.grow hW)
              rw [hp] at this
              exact this
          obtain ⟨y, hy⟩ : ∃ y, Xs.partX Xs.Ex.one f l = y := ⟨_, rfl⟩
          rw [hy] at HX
          have Hy := Lib.hid hy
          have xs8 := HX.out.lt
          have ps6 := HPR.out.lt
          clear hkx hx hxx hcell hi hp hy
          by_cases he : er = 0
          · have de : (er != 0) = false := by rw [he]; rfl
            have He := Lib.hid he
            clear he
            by_cases h3 : i = 3
            · have e3 : i = 3 := h3
              have d3 : ((i : Int) == 3) = true := by rw [beq_iff_eq]; omega
              have d5 : ((i : Int) == 5) = false := by rw [beq_eq_false_iff_ne]; omega
              have H3 := Lib.hid e3
              clear e3 h3
              go_wp2_with (go_at_call 33; (with_reducible refine (HPa.out _ (by first | exact Below.refl _ _ | exact (Below.refl _ _).drew)).mono ?_); rintro e w5 ⟨rfl, hb5⟩
                           have HB5 : Hid (Below wr.heap.size wr w5) := Lib.hid (by first | exact hb5 | exact (Below.refl _ _).drew.trans hb5)
                           have xk : w5.cell? ⟨W.heap.size, i, none⟩ = some (.int .u64 (setX y i)) := (HB5.out.cell (p := ⟨W.heap.size, i, none⟩) xs8).trans ((HX.out.cell i).trans (setX_cell y i hi6))
                           have xf : w5.frozen? ⟨W.heap.size, i, none⟩ = false := (HB5.out.frozen (p := ⟨W.heap.size, i, none⟩) xs8).trans (HX.out.frozen i)
                           have xk6 : w5.cell? ⟨W.heap.size, 6, none⟩ = some (.bool y.anyDay) := (HB5.out.cell (p := ⟨W.heap.size, 6, none⟩) xs8).trans (HX.out.cell 6)
                           have xf6 : w5.frozen? ⟨W.heap.size, 6, none⟩ = false := (HB5.out.frozen (p := ⟨W.heap.size, 6, none⟩) xs8).trans (HX.out.frozen 6)
                           have xne : i ≠ 6 := by omega
                           have pk : w5.cell? ⟨wS.heap.size, i, none⟩ = some (.pointer (some ⟨W.heap.size, i, none⟩)) := (HB5.out.cell (p := ⟨wS.heap.size, i, none⟩) ps6).trans ((HPR.out.cell i).trans (ptr_cell W.heap.size i hi6))
                           clear hb5)
              go_roundw
              case rel =>
                refine ⟨k + 1, l ++ [(st, sb)], by omega, by go_num, ?_, by rw [List.length_append, hlk]; rfl, ?_, ?_⟩
                · have h := take_next (K := KX) Hx.out HOK.out (by rw [← Hi.out, HP.out]; exact He.out)
                  rw [← Hi.out, HP.out] at h
                  exact h
                · exact ((HKP.out.trans (Kp.of_below HB5.out)).set_ (.inl rfl) _).set_ (.inl rfl) _
                · rw [Xs.partX_next, hlk, ← Hi.out, Hy.out, H3.out]
                  exact put_cells3 y st sb (HX.out.below HB5.out xs8)
              case measure => simp [intOf]; omega
            · by_cases h5 : i = 5
              · have e3 : i = 5 := h5
                have d3 : ((i : Int) == 3) = false := by rw [beq_eq_false_iff_ne]; omega
                have d5 : ((i : Int) == 5) = true := by rw [beq_iff_eq]; omega
                have H3 := Lib.hid e3
                clear e3 h3 h5
                go_wp2_with (go_at_call 33; (with_reducible refine (HPa.out _ (by first | exact Below.refl _ _ | exact (Below.refl _ _).drew)).mono ?_); rintro e w5 ⟨rfl, hb5⟩
                             have HB5 : Hid (Below wr.heap.size wr w5) := Lib.hid (by first | exact hb5 | exact (Below.refl _ _).drew.trans hb5)
                             have xk : w5.cell? ⟨W.heap.size, i, none⟩ = some (.int .u64 (setX y i)) := (HB5.out.cell (p := ⟨W.heap.size, i, none⟩) xs8).trans ((HX.out.cell i).trans (setX_cell y i hi6))
                             have xf : w5.frozen? ⟨W.heap.size, i, none⟩ = false := (HB5.out.frozen (p := ⟨W.heap.size, i, none⟩) xs8).trans (HX.out.frozen i)
                             have xk6 : w5.cell? ⟨W.heap.size, 7, none⟩ = some (.bool y.anyWeek) := (HB5.out.cell (p := ⟨W.heap.size, 7, none⟩) xs8).trans (HX.out.cell 7)
                             have xf6 : w5.frozen? ⟨W.heap.size, 7, none⟩ = false := (HB5.out.frozen (p := ⟨W.heap.size, 7, none⟩) xs8).trans (HX.out.frozen 7)
                             have xne : i ≠ 7 := by omega
                             have pk : w5.cell? ⟨wS.heap.size, i, none⟩ = some (.pointer (some ⟨W.heap.size, i, none⟩)) := (HB5.out.cell (p := ⟨wS.heap.size, i, none⟩) ps6).trans ((HPR.out.cell i).trans (ptr_cell W.heap.size i hi6))
                             clear hb5)
                go_roundw
                case rel =>
                  refine ⟨k + 1, l ++ [(st, sb)], by omega, by go_num, ?_, by rw [List.length_append, hlk]; rfl, ?_, ?_⟩
                  · have h := take_next (K := KX) Hx.out HOK.out (by rw [← Hi.out, HP.out]; exact He.out)
                    rw [← Hi.out, HP.out] at h
                    exact h
                  · exact ((HKP.out.trans (Kp.of_below HB5.out)).set_ (.inl rfl) _).set_ (.inl rfl) _
                  · rw [Xs.partX_next, hlk, ← Hi.out, Hy.out, H3.out]
                    exact put_cells5 y st sb (HX.out.below HB5.out xs8)
                case measure => simp [intOf]; omega
              · have d3 : ((i : Int) == 3) = false := by rw [beq_eq_false_iff_ne]; omega
                have d5 : ((i : Int) == 5) = false := by rw [beq_eq_false_iff_ne]; omega
                have H3 := Lib.hid h3
                have H5' := Lib.hid h5
                clear h3 h5
                go_wp2_with (go_at_call 33; (with_reducible refine (HPa.out _ (by first | exact Below.refl _ _ | exact (Below.refl _ _).drew)).mono ?_); rintro e w5 ⟨rfl, hb5⟩
                             have HB5 : Hid (Below wr.heap.size wr w5) := Lib.hid (by first | exact hb5 | exact (Below.refl _ _).drew.trans hb5)
                             have xk : w5.cell? ⟨W.heap.size, i, none⟩ = some (.int .u64 (setX y i)) := (HB5.out.cell (p := ⟨W.heap.size, i, none⟩) xs8).trans ((HX.out.cell i).trans (setX_cell y i hi6))
                             have xf : w5.frozen? ⟨W.heap.size, i, none⟩ = false := (HB5.out.frozen (p := ⟨W.heap.size, i, none⟩) xs8).trans (HX.out.frozen i)
                             have pk : w5.cell? ⟨wS.heap.size, i, none⟩ = some (.pointer (some ⟨W.heap.size, i, none⟩)) := (HB5.out.cell (p := ⟨wS.heap.size, i, none⟩) ps6).trans ((HPR.out.cell i).trans (ptr_cell W.heap.size i hi6))
                             clear hb5)
                go_roundw
                case rel =>
                  refine ⟨k + 1, l ++ [(st, sb)], by omega, by go_num, ?_, by rw [List.length_append, hlk]; rfl, ?_, ?_⟩
                  · have h := take_next (K := KX) Hx.out HOK.out (by rw [← Hi.out, HP.out]; exact He.out)
                    rw [← Hi.out, HP.out] at h
                    exact h
                  · exact (HKP.out.trans (Kp.of_below HB5.out)).set_ (.inl rfl) _
                  · rw [Xs.partX_next, hlk, ← Hi.out, Hy.out]
                    exact put_cells y st sb (HX.out.below HB5.out xs8) i hi6 H3.out H5'.out
                case measure => simp [intOf]; omega
          · have de : (er != 0) = true := by rw [bne, beq_eq_false_iff_ne.2 he]; rfl
            have hpl : pl ≤ x.1.2.data.toList.length := by
              rcases Fs.parse_facts (kinds_ok.ok i hi6) x.1.2.data.toList with ⟨h, _⟩ | ⟨_, _, ⟨_, h⟩ | ⟨_, h⟩⟩
              · rw [HP.out] at h; exact absurd h he
              · rw [HP.out] at h; exact h
              · rw [HP.out] at h; exact Nat.le_of_lt h
            have hsum : x.1.1 + pl ≤ 100000 := by
              have h1 := x.2.2
              have h2 : x.1.2.data.toList.length = x.1.2.size := by rw [Array.length_toList]; rfl
              omega
            obtain ⟨q, hq⟩ : ∃ q, x.1.1 + pl = q := ⟨_, rfl⟩
            have hs2 : (x.1.1 : Int) + (pl : Int) = (q : Int) := by omega
            have hq5 : q ≤ 100000 := by omega
            have HR : Hid (retX (Xs.read KX (Xs.words s.data.toList) s.size) = .tuple #[exV 0 0 0 0 0 0 false false, .int .i64 q, .int .i64 er]) := Lib.hid (retX_zero (Xs.read_bad (by rw [← HS.out, List.length_map]; exact Hxl.out) hf1 (by
              have h := take_bad (K := KX) Hx.out HOK.out (by rw [← Hi.out, HP.out]; exact he)
              rw [← Hi.out, HP.out, HS.out] at h
              rw [← hq]
              exact h)))
            clear hsum hq
            obtain ⟨gb, rfl, hnc2, hgb, hcell2⟩ := row_cell (k := k) (u := .int .i64 x.1.1) Hprow.out (by rw [List.getElem?_map, Hx.out]; rfl)
            have hgb0 : W0.heap.size ≤ gb := (own_at Hprow.out rfl).1
            have nE : bE ≠ gb := by omega
            have nE' : gb ≠ bE := by omega
            have n1' : gb ≠ b1 := by omega
            have n2' : gb ≠ b2 := by omega
            have zE : Blk wr bE 25 zeroC := (HLOW.out bE (by omega)).trans HE1.out
            have z1 : Blk wr b1 3 #[.int .i64 0] := (HLOW.out b1 (by omega)).trans HE2.out
            have z2 : Blk wr b2 26 #[.int .i64 0] := (HLOW.out b2 (by omega)).trans HE3.out
            have zD : wr.heap[D]? = some (.deferred (some [])) := (HLOW.out D (Array.getElem?_eq_some_iff.1 HD.out).1).trans HD.out
            have zB : Below w.heap.size w wr := ⟨HKP.out.os.trans ((by rw [← hW4]; exact HB3.out.os : W4.os = W.os).trans HB1.out.os), HKP.out.tape.trans ((by rw [← hW4]; exact HB3.out.tape : W4.tape = W.tape).trans HB1.out.tape), HKP.out.output.trans ((by rw [← hW4]; exact HB3.out.output : W4.output = W.output).trans HB1.out.output), by have := HX.out.lt; have := HB1.out.size; omega, fun b hb => (HLOW.out b (by have := HB1.out.size; omega)).trans (HB1.out.block b hb)⟩
            have ck4 : wr.cell? ⟨b4, 0, none⟩ = some (.slice (some ⟨gb, 0, none⟩) xs.length c') := (World.cell?_of_block (a := ⟨b4, 0, none⟩) (HLOW.out b4 w4)).trans hpc
            have ckb : wr.cell? ⟨gb, k, none⟩ = some (.int .i64 x.1.1) := (World.cell?_of_block (a := ⟨gb, k, none⟩) (HLOW.out gb hgb)).trans hcell2
            have hgr : gb < wr.heap.size := by omega
            have ZZ := Lib.hid (And.intro zE (And.intro z1 (And.intro z2 (And.intro zD zB))))
            have hEr := zE.lt
            have h1r := z1.lt
            have h2r := z2.lt
            clear zE z1 z2 zD zB hcell2 he hpl
            go_wp2_with (go_at_call 33; (with_reducible refine (HPa.out _ (by first | exact Below.refl _ _ | exact (Below.refl _ _).drew)).mono ?_); rintro e w5 ⟨rfl, hb5⟩
                         have HB5 : Hid (Below wr.heap.size wr w5) := Lib.hid (by first | exact hb5 | exact (Below.refl _ _).drew.trans hb5)
                         have y4 : w5.cell? ⟨b4, 0, none⟩ = some (.slice (some ⟨gb, 0, none⟩) xs.length c') := (HB5.out.cell (p := ⟨b4, 0, none⟩) (by show b4 < wr.heap.size; omega)).trans ck4
                         have yb : w5.cell? ⟨gb, k, none⟩ = some (.int .i64 x.1.1) := (HB5.out.cell (p := ⟨gb, k, none⟩) hgr).trans ckb
                         have yE : Blk w5 bE 25 zeroC := ZZ.out.1.below HB5.out hEr
                         have y1 : Blk w5 b1 3 #[.int .i64 0] := ZZ.out.2.1.below HB5.out h1r
                         have y2 : Blk w5 b2 26 #[.int .i64 0] := ZZ.out.2.2.1.below HB5.out h2r
                         obtain ⟨yEc, yEf⟩ := yE.facts
                         obtain ⟨y1c, y1f⟩ := y1.facts
                         obtain ⟨y2c, y2f⟩ := y2.facts
                         have YE := Lib.hid (And.intro yE (And.intro y1 y2))
                         clear hb5 yE y1 y2)
            refine wp_region_held_drew (S := fun V => V.cell? ⟨b4, 0, none⟩ = some (.slice (some ⟨gb, 0, none⟩) xs.length c') ∧ V.cell? ⟨gb, k, none⟩ = some (.int .i64 x.1.1)) (by kernel_rfl) ?hs3001 (fun hHeld => ?rs3001)
            case hs3001 => exact ⟨y4, yb⟩
            refine wpAnyH_take (i := 0) (oi := ?oi3002) (v := ?vv3002) ?hi3002 (by kernel_rfl) (by kernel_rfl) (by kernel_rfl) ?hq3002 (Or.inl ⟨?hw3002, ?hy3002⟩) (by assumption) ?rs3002
            case hi3002 => (simp only [Hg]; rfl)
            case hq3002 => exact fun _ _ _ h => h
            case hw3002 => rfl
            case hy3002 => (intro w hSw; (try dsimp only at hSw); go_simp <;> with_reducible rfl)
            simp only [Hp]
            refine wpAnyH_take (i := 1) (oi := ?oi3003) (v := ?vv3003) ?hi3003 (by kernel_rfl) (by kernel_rfl) (by kernel_rfl) ?hq3003 (Or.inl ⟨?hw3003, ?hy3003⟩) (by assumption) ?rs3003
            case hi3003 => (simp only [Hg]; rfl)
            case hq3003 => exact fun _ _ _ h => h
            case hw3003 => rfl
            case hy3003 => (intro w hSw; (try dsimp only at hSw); go_simp <;> with_reducible rfl)
            simp only [Hp]
            refine wpAnyH_take (i := 2) (oi := ?oi3004) (v := ?vv3004) ?hi3004 (by kernel_rfl) (by kernel_rfl) (by kernel_rfl) ?hq3004 (Or.inl ⟨?hw3004, ?hy3004⟩) (by assumption) ?rs3004
            case hi3004 => (simp only [Hg]; rfl)
            case hq3004 => exact fun _ _ _ h => h
            case hw3004 => rfl
            case hy3004 => (intro w hSw; (try dsimp only at hSw); go_simp <;> with_reducible rfl)
            simp only [Hp]
            refine wpAnyH_take (i := 3) (oi := ?oi3005) (v := ?vv3005) ?hi3005 (by kernel_rfl) (by kernel_rfl) (by kernel_rfl) ?hq3005 (Or.inl ⟨?hw3005, ?hy3005⟩) (by assumption) ?rs3005
            case hi3005 => (simp only [Hg]; rfl)
            case hq3005 => exact fun _ _ _ h => h
            case hw3005 => rfl
            case hy3005 => (intro w hSw; (try dsimp only at hSw); go_simp <;> with_reducible rfl)
            simp only [Hp]
            refine wpAnyH_take (i := 4) (oi := ?oi3006) (v := ?vv3006) ?hi3006 (by kernel_rfl) (by kernel_rfl) (by kernel_rfl) ?hq3006 (Or.inl ⟨?hw3006, ?hy3006⟩) (by assumption) ?rs3006
            case hi3006 => (simp only [Hg]; rfl)
            case hq3006 => exact fun _ _ _ h => h
            case hw3006 => rfl
            case hy3006 => (intro w hSw; (try dsimp only at hSw); go_simp <;> with_reducible rfl)
            simp only [Hp]
            refine wpAnyH_take (i := 5) (oi := ?oi3007) (v := ?vv3007) ?hi3007 (by kernel_rfl) (by kernel_rfl) (by kernel_rfl) ?hq3007 (Or.inl ⟨?hw3007, ?hy3007⟩) (by assumption) ?rs3007
            case hi3007 => (simp only [Hg]; rfl)
            case hq3007 => exact fun _ _ _ h => h
            case hw3007 => rfl
            case hy3007 => (intro w hSw; (try dsimp only at hSw); go_simp <;> with_reducible rfl)
            simp only [Hp]
            refine wpAnyH_take (i := 6) (oi := ?oi3008) (v := ?vv3008) ?hi3008 (by kernel_rfl) (by kernel_rfl) (by kernel_rfl) ?hq3008 (Or.inl ⟨?hw3008, ?hy3008⟩) (by assumption) ?rs3008
            case hi3008 => (simp only [Hg]; rfl)
            case hq3008 => exact fun _ _ _ h => h
            case hw3008 => rfl
            case hy3008 => (intro w hSw; (try dsimp only at hSw); go_simp <;> with_reducible rfl)
            simp only [Hp]
            refine wpAnyH_take (i := 7) (oi := ?oi3009) (v := ?vv3009) ?hi3009 (by kernel_rfl) (by kernel_rfl) (by kernel_rfl) ?hq3009 (Or.inl ⟨?hw3009, ?hy3009⟩) (by assumption) ?rs3009
            case hi3009 => (simp only [Hg]; rfl)
            case hq3009 => exact fun _ _ _ h => h
            case hw3009 => rfl
            case hy3009 => (intro w hSw; (try dsimp only at hSw); go_simp <;> with_reducible rfl)
            simp only [Hp]
            refine wpAnyH_ready (rs := [8]) (by kernel_rfl) (by simp) (AllReadyH.cons (o := ?oi3010) ?hi3010 (fun K hK => ?rs3010) AllReadyH.nil)
            case hi3010 => (simp only [Hg]; rfl)
            clear hHeld
            go_simp
            refine hK.out _ _ ?hs3010 (fun hHeld => ?rt3010)
            case hs3010 => exact ⟨(drew_cell _ _).trans ((cell_far8 (show b4 ≠ bE by omega) _ _ _ _ _ _ _ _).trans y4), (drew_cell _ _).trans ((cell_far8 (show gb ≠ bE by omega) _ _ _ _ _ _ _ _).trans yb)⟩
            clear hK K
            try simp only [Hp]
            refine wpAnyH_ready (rs := [9]) (by kernel_rfl) (by simp) (AllReadyH.cons (o := ?oi3011) ?hi3011 (fun K hK => ?rs3011) AllReadyH.nil)
            case hi3011 => (simp only [Hg]; rfl)
            clear hHeld
            go_simp
            refine hK.out _ _ ?hs3011 (fun hHeld => ?rt3011)
            case hs3011 => exact ⟨(drew_cell _ _).trans ((cell_far1 (show b4 ≠ b1 by omega) _).trans ((cell_far8 (show b4 ≠ bE by omega) _ _ _ _ _ _ _ _).trans y4)), (drew_cell _ _).trans ((cell_far1 (show gb ≠ b1 by omega) _).trans ((cell_far8 (show gb ≠ bE by omega) _ _ _ _ _ _ _ _).trans yb))⟩
            clear hK K
            try simp only [Hp]
            refine wpAnyH_ready (rs := [10]) (by kernel_rfl) (by simp) (AllReadyH.cons (o := ?oi3012) ?hi3012 (fun K hK => ?rs3012) AllReadyH.nil)
            case hi3012 => (simp only [Hg]; rfl)
            clear hHeld
            go_simp
            refine hK.out _ _ ?hs3012 (fun hHeld => ?rt3012)
            case hs3012 => exact ⟨(drew_cell _ _).trans ((cell_far1 (show b4 ≠ b2 by omega) _).trans ((cell_far1 (show b4 ≠ b1 by omega) _).trans ((cell_far8 (show b4 ≠ bE by omega) _ _ _ _ _ _ _ _).trans y4))), (drew_cell _ _).trans ((cell_far1 (show gb ≠ b2 by omega) _).trans ((cell_far1 (show gb ≠ b1 by omega) _).trans ((cell_far8 (show gb ≠ bE by omega) _ _ _ _ _ _ _ _).trans yb)))⟩
            clear hK K
            try simp only [Hp]
            refine wpAnyH_done (by kernel_rfl) ?_ _
            go_wp2
            clear yEc yEf y1c y1f y2c y2f
            obtain ⟨yE, y1, y2⟩ := YE.out
            have kd := (HB5.out.block D (Array.getElem?_eq_some_iff.1 ZZ.out.2.2.2.1).1).trans ZZ.out.2.2.2.1
            have kb := ZZ.out.2.2.2.2.trans (HB5.out.mono ZZ.out.2.2.2.2.size)
            have hEf := ((((yE.set8 (.int .u64 0) (.int .u64 0) (.int .u64 0) (.int .u64 0) (.int .u64 0) (.int .u64 0) (.bool false) (.bool false)).far (p := ⟨b1, 0, none⟩) (by show bE ≠ b1; omega) (.int .i64 q)).far (p := ⟨b2, 0, none⟩) (by show bE ≠ b2; omega) (.int .i64 er))).drew
            have h1f := ((((y1.far8 (show b1 ≠ bE by omega) (.int .u64 0) (.int .u64 0) (.int .u64 0) (.int .u64 0) (.int .u64 0) (.int .u64 0) (.bool false) (.bool false)).set_ 0 (.int .i64 q)).far (p := ⟨b2, 0, none⟩) (by show b1 ≠ b2; omega) (.int .i64 er))).drew
            have h2f := ((((y2.far8 (show b2 ≠ bE by omega) (.int .u64 0) (.int .u64 0) (.int .u64 0) (.int .u64 0) (.int .u64 0) (.int .u64 0) (.bool false) (.bool false)).far (p := ⟨b1, 0, none⟩) (by show b2 ≠ b1; omega) (.int .i64 q)).set_ 0 (.int .i64 er))).drew
            have hbf := (((below_set8 kb l0 (.int .u64 0) (.int .u64 0) (.int .u64 0) (.int .u64 0) (.int .u64 0) (.int .u64 0) (.bool false) (.bool false)).setCell (p := ⟨b1, 0, none⟩) (by show w.heap.size ≤ b1; omega) (.int .i64 q)).setCell (p := ⟨b2, 0, none⟩) (by show w.heap.size ≤ b2; omega) (.int .i64 er)).drew
            have hdf := ((ko_set (ko_set (ko_set8 (KeepsOthers.refl w5) bE (.int .u64 0) (.int .u64 0) (.int .u64 0) (.int .u64 0) (.int .u64 0) (.int .u64 0) (.bool false) (.bool false)) ⟨b1, 0, none⟩ (.int .i64 q)) ⟨b2, 0, none⟩ (.int .i64 er)).trans (KeepsOthers.drew _)).same D _ kd rfl
            unfold put8 at hEf h1f h2f hbf hdf
            rw [show IntKind.i64.wrap (q : Int) = (q : Int) from (Go.IntWalk.i64_left _).trans (Go.IntWalk.wrap64_in _ (by omega))]
            generalize World.drew _ = WZ at hEf h1f h2f hbf hdf ⊢
            obtain ⟨ec, ef⟩ := (hEf.putObj (D := D) (by omega) (.deferred none)).facts
            obtain ⟨c1, f1⟩ := (h1f.putObj (D := D) (by omega) (.deferred none)).facts
            obtain ⟨c2', f2⟩ := (h2f.putObj (D := D) (by omega) (.deferred none)).facts
            have HBf := Lib.hid (below_put hbf (Nat.le_trans HBW.out.size hD) (.deferred none))
            have HDf := Lib.hid hdf
            clear hEf h1f h2f hbf hdf yE y1 y2 kd kb
            refine calm_ret ?_
            rw [← HQ.out]
            refine ⟨by simp, .inl ⟨D, _, rfl, run_takeDeferred HDf.out, .tuple #[exV 0 0 0 0 0 0 false false, .int .i64 q, .int .i64 er], ?_, ?_⟩⟩
            · generalize World.putObj _ _ _ = WF at *
              clear HR HBf HDf HQ HT
              simp [results, Tryz.results42, go_sem, ec, ef, c1, f1, c2', f2]
            · exact ⟨by rw [HR.out], HBf.out⟩
        · have hkn : k = xs.length := by omega
          have n1 : decide (k < xs.length) = false := decide_eq_false hk
          have n2 : decide ((k : Int) < (xs.length : Int)) = false := decide_eq_false (by omega)
          have hfin : Xs.fields KX f (Xs.words s.data.toList) = .ok l := by
            have h := HOK.out
            rw [hkn, List.take_length, HS.out] at h
            exact h
          have HR : Hid (Xs.read KX (Xs.words s.data.toList) s.size = (Xs.partX Xs.Ex.one f l, 0, 0)) := Lib.hid (Xs.read_ok (by rw [← HS.out, List.length_map]; exact Hxl.out) hf1 hfin)
          obtain ⟨y, hy⟩ : ∃ y, Xs.partX Xs.Ex.one f l = y := ⟨_, rfl⟩
          rw [hy] at HX HR
          have zE : Blk wr bE 25 zeroC := (HLOW.out bE (by omega)).trans HE1.out
          have z1 : Blk wr b1 3 #[.int .i64 0] := (HLOW.out b1 (by omega)).trans HE2.out
          have z2 : Blk wr b2 26 #[.int .i64 0] := (HLOW.out b2 (by omega)).trans HE3.out
          have zD : wr.heap[D]? = some (.deferred (some [])) := (HLOW.out D (Array.getElem?_eq_some_iff.1 HD.out).1).trans HD.out
          have zB : Below w.heap.size w wr := ⟨HKP.out.os.trans ((by rw [← hW4]; exact HB3.out.os : W4.os = W.os).trans HB1.out.os), HKP.out.tape.trans ((by rw [← hW4]; exact HB3.out.tape : W4.tape = W.tape).trans HB1.out.tape), HKP.out.output.trans ((by rw [← hW4]; exact HB3.out.output : W4.output = W.output).trans HB1.out.output), by have := HX.out.lt; have := HB1.out.size; omega, fun b hb => (HLOW.out b (by have := HB1.out.size; omega)).trans (HB1.out.block b hb)⟩
          obtain ⟨ec, ef⟩ := zE.facts
          obtain ⟨c1, f1⟩ := z1.facts
          obtain ⟨c2, f2⟩ := z2.facts
          obtain ⟨yc, yf⟩ := HX.out.facts
          have hEf := (((zE.set8 (.int .u64 y.second) (.int .u64 y.minute) (.int .u64 y.hour) (.int .u64 y.day) (.int .u64 y.month) (.int .u64 y.week) (.bool y.anyDay) (.bool y.anyWeek)).far (p := ⟨b1, 0, none⟩) (by show bE ≠ b1; omega) (.int .i64 0)).far (p := ⟨b2, 0, none⟩) (by show bE ≠ b2; omega) (.int .i64 0))
          have h1f := (((z1.far8 (show b1 ≠ bE by omega) (.int .u64 y.second) (.int .u64 y.minute) (.int .u64 y.hour) (.int .u64 y.day) (.int .u64 y.month) (.int .u64 y.week) (.bool y.anyDay) (.bool y.anyWeek)).set_ 0 (.int .i64 0)).far (p := ⟨b2, 0, none⟩) (by show b1 ≠ b2; omega) (.int .i64 0))
          have h2f := (((z2.far8 (show b2 ≠ bE by omega) (.int .u64 y.second) (.int .u64 y.minute) (.int .u64 y.hour) (.int .u64 y.day) (.int .u64 y.month) (.int .u64 y.week) (.bool y.anyDay) (.bool y.anyWeek)).far (p := ⟨b1, 0, none⟩) (by show b2 ≠ b1; omega) (.int .i64 0)).set_ 0 (.int .i64 0))
          have hbf := ((below_set8 zB l0 (.int .u64 y.second) (.int .u64 y.minute) (.int .u64 y.hour) (.int .u64 y.day) (.int .u64 y.month) (.int .u64 y.week) (.bool y.anyDay) (.bool y.anyWeek)).setCell (p := ⟨b1, 0, none⟩) (by show w.heap.size ≤ b1; omega) (.int .i64 0)).setCell (p := ⟨b2, 0, none⟩) (by show w.heap.size ≤ b2; omega) (.int .i64 0)
          have hdf : (((put8 wr bE (.int .u64 y.second) (.int .u64 y.minute) (.int .u64 y.hour) (.int .u64 y.day) (.int .u64 y.month) (.int .u64 y.week) (.bool y.anyDay) (.bool y.anyWeek)).setCell ⟨b1, 0, none⟩ (.int .i64 0)).setCell ⟨b2, 0, none⟩ (.int .i64 0)).heap[D]? = some (.deferred (some [])) := ((ko_set (ko_set (ko_set8 (KeepsOthers.refl wr) bE _ _ _ _ _ _ _ _) _ _) _ _).same D _ zD rfl)
          have HF5 := Lib.hid (And.intro hEf (And.intro h1f (And.intro h2f (And.intro hbf hdf))))
          have xs8 := HX.out.lt
          clear hkn hfin hy zE z1 z2 zD zB hEf h1f h2f hbf hdf hk
          go_wp2
          obtain ⟨hEf, h1f, h2f, hbf, hdf⟩ := HF5.out
          clear ec ef c1 f1 c2 f2 yc yf hvc hvf hpc hpf
          obtain ⟨ec, ef⟩ := (hEf.putObj (D := D) (by omega) (.deferred none)).facts
          obtain ⟨c1, f1⟩ := (h1f.putObj (D := D) (by omega) (.deferred none)).facts
          obtain ⟨c2, f2⟩ := (h2f.putObj (D := D) (by omega) (.deferred none)).facts
          have HBf := Lib.hid (below_put hbf (Nat.le_trans HBW.out.size hD) (.deferred none))
          have HDf := Lib.hid hdf
          clear hEf h1f h2f hbf hdf HF5
          refine calm_ret ?_
          rw [← HQ.out]
          refine ⟨by simp, .inl ⟨D, _, rfl, run_takeDeferred HDf.out, .tuple #[exV y.second y.minute y.hour y.day y.month y.week y.anyDay y.anyWeek, .int .i64 0, .int .i64 0], ?_, ?_⟩⟩
          · generalize World.putObj _ _ _ = WF at *
            clear HR HBf HDf HQ HT
            simp [results, Tryz.results42, go_sem, ec, ef, c1, f1, c2, f2]
          · exact ⟨by rw [HR.out]; rfl, HBf.out⟩
  case stop =>
    rintro D c pre W hD hS ⟨rfl, ⟨x, ⟨h7, hx⟩, h1⟩, ⟨hE, h2⟩, hbw⟩ hdef
    have HR := Lib.hid (retX_zero (read_seven (K := KX) (len := s.size) hS h7 hx))
    have HB := Lib.hid (below_put hbw (Nat.le_trans HBW.out.size hD) (.deferred none))
    have e1 := (hE.putObj (D := D) (by omega) (.deferred none)).facts
    have e2 := (h1.putObj (D := D) (by omega) (.deferred none)).facts
    have e3 := (h2.putObj (D := D) (by omega) (.deferred none)).facts
    obtain ⟨ec, ef⟩ := e1
    obtain ⟨c1, f1⟩ := e2
    obtain ⟨c2, f2⟩ := e3
    have HD := Lib.hid hdef
    clear hS h7 hx h1 hE h2 hbw hdef
    refine wpIn_wide.2 ?_
    go_wp2
    refine calm_ret ?_
    rw [← HQ.out]
    refine ⟨by simp, .inl ⟨D, _, rfl, run_takeDeferred HD.out, .tuple #[exV 0 0 0 0 0 0 false false, .int .i64 x.1.1, .int .i64 10], ?_, ?_⟩⟩
    · clear HR HB HD HQ HT
      simp [results, Tryz.results42, go_sem, ec, ef, c1, f1, c2, f2]
    · exact ⟨by rw [HR.out], HB.out⟩
end Go.Proofs.YtjnlgaeedcklaaaGreatDoor
