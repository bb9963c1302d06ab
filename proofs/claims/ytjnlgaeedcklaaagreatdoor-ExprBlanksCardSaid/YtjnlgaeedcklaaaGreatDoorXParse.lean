/-
  The program's Parse: a word that stands alone behind an @ is a macro; all else is read.
-/
import Derived.Test.YtjnlgaeedcklaaaGreatDoorXMac
set_option linter.unusedVariables false
set_option linter.unusedSimpArgs false
namespace Go.Proofs.YtjnlgaeedcklaaaGreatDoor
open Go.RowKit Go.Shelf
attribute [local go_sem] Oper.semAt_some

/-- What Parse returns of a macro's word. -/
def macR (a : Nat) (u : List UInt8) : Xs.Ex × Nat × Int := if (Xs.mac KX u).2 then ((Xs.mac KX u).1, 0, 0) else (Xs.Ex.zero, a, 10)

/-- Does the word stand alone, with an @ ahead? -/
def Alone (s : ByteArray) (x : Wd s.size) : Prop := x.1.2.data.toList[0]? = some 64 ∧ Lib.trimRightS (s.data.toList.drop x.1.1) [32, 9] = x.1.2.data.toList

theorem first_word {s : ByteArray} {x : Wd s.size} (h : ([x].map encW) <+: Xs.words s.data.toList) :
    Xs.af s.data.toList ≠ [] ∧ x.1.1 = s.data.toList.length - (Xs.af s.data.toList).length ∧ x.1.2.data.toList = Xs.wd s.data.toList ∧ s.data.toList.drop x.1.1 = Xs.af s.data.toList := by
  rw [Xs.words_first] at h
  split at h
  · simp at h
  · rename_i ha
    simp only [List.map_cons, List.map_nil, List.cons_prefix_cons, List.nil_prefix, and_true] at h
    unfold encW at h
    injection h with h1 h2
    refine ⟨ha, h1, h2, ?_⟩
    have h3 := Xs.af_len s.data.toList
    have h4 := Xs.af_split s.data.toList
    rw [h1, show s.data.toList.length - (Xs.af s.data.toList).length = (s.data.toList.takeWhile Xs.blank).length by omega]
    have h5 : (s.data.toList.takeWhile Xs.blank ++ Xs.af s.data.toList).drop (s.data.toList.takeWhile Xs.blank).length = Xs.af s.data.toList := List.drop_left
    rw [← h4] at h5
    exact h5

theorem parse_alone {s : ByteArray} {x : Wd s.size} (h : ([x].map encW) <+: Xs.words s.data.toList) (ha : Alone s x) : Xs.parse KX s.data.toList = macR x.1.1 x.1.2.data.toList := by
  obtain ⟨h1, h2, h3, h4⟩ := first_word h
  obtain ⟨g1, g2⟩ := ha
  rw [h3] at g1 g2
  rw [h4] at g2
  rw [Xs.parse_macro KX _ h1 g1 ((Xs.trim_one _ h1).1 g2), macR, h2, h3]

theorem parse_other {s : ByteArray} {x : Wd s.size} (h : ([x].map encW) <+: Xs.words s.data.toList) (ha : ¬ Alone s x) : Xs.parse KX s.data.toList = Xs.read KX (Xs.words s.data.toList) s.size := by
  obtain ⟨h1, h2, h3, h4⟩ := first_word h
  rw [Xs.parse_read KX _ (.inr (by
    by_cases g1 : (Xs.wd s.data.toList)[0]? = some 64
    · right
      intro g2
      refine ha ⟨by rw [h3]; exact g1, ?_⟩
      rw [h4, h3]
      exact (Xs.trim_one _ h1).2 g2
    · exact .inl g1)), Array.length_toList]
  rfl

theorem parse_empty {s : ByteArray} (h : Xs.words s.data.toList = []) : Xs.parse KX s.data.toList = Xs.read KX (Xs.words s.data.toList) s.size := by
  rw [Xs.parse_read KX _ (.inl (by
    rw [Xs.words_first] at h
    split at h
    · assumption
    · cases h)), Array.length_toList]
  rfl

/-- Between two rounds: nothing has come. -/
def PaI (s : ByteArray) (w : World) (bs bE b1 b2 : Nat) (pre : List (Wd s.size)) (W : World) : Prop :=
  pre = [] ∧ (((Blk W bs 9 #[.string s] ∧ Blk W bE 25 zeroC) ∧ Blk W b1 3 #[.int .i64 0]) ∧ Blk W b2 26 #[.int .i64 0]) ∧ Below w.heap.size w W
/-- Where the loop has ended early: at a macro, or at any other first word. -/
def PaX (s : ByteArray) (w : World) (bs bE b1 b2 : Nat) (c : Code) (pre : List (Wd s.size)) (W : World) : Prop :=
  ∃ x : Wd s.size, pre = [x] ∧ Below w.heap.size w W ∧
    ((c = .ret ∧ Alone s x ∧ (Blk W bE 25 (exE (macR x.1.1 x.1.2.data.toList).1) ∧ Blk W b1 3 #[.int .i64 (macR x.1.1 x.1.2.data.toList).2.1]) ∧ Blk W b2 26 #[.int .i64 (macR x.1.1 x.1.2.data.toList).2.2]) ∨
      (c = .exit 0 ∧ ¬ Alone s x ∧ ((Blk W bs 9 #[.string s] ∧ Blk W bE 25 zeroC) ∧ Blk W b1 3 #[.int .i64 0]) ∧ Blk W b2 26 #[.int .i64 0]))

theorem paI_own (s : ByteArray) (w : World) (bs bE b1 b2 B : Nat) (h0 : w.heap.size ≤ B) : OwnFrom B (PaI s w bs bE b1 b2) := by
  rintro pre A A' row ⟨hp, ⟨⟨⟨hS, hE⟩, h1⟩, h2⟩, hb⟩ hg hr
  have T := fun g t cs (h : Blk A g t cs) => blk_own (β := Unit) g t cs () _ _ _ h hg (fun r e => (hr r e).2)
  exact ⟨hp, ⟨⟨⟨T _ _ _ hS, T _ _ _ hE⟩, T _ _ _ h1⟩, T _ _ _ h2⟩, ownFrom_below (β := Unit) (w₀ := w) (Nat.le_refl _) h0 () _ _ _ hb hg hr⟩
theorem paX_own (s : ByteArray) (w : World) (bs bE b1 b2 B : Nat) (h0 : w.heap.size ≤ B) (c : Code) : OwnFrom B (PaX s w bs bE b1 b2 c) := by
  rintro pre A A' row ⟨x, hp, hb, h⟩ hg hr
  have T := fun g t cs (h : Blk A g t cs) => blk_own (β := Unit) g t cs () _ _ _ h hg (fun r e => (hr r e).2)
  refine ⟨x, hp, ownFrom_below (β := Unit) (w₀ := w) (Nat.le_refl _) h0 () _ _ _ hb hg hr, ?_⟩
  rcases h with ⟨hc, ha, ⟨hE, h1⟩, h2⟩ | ⟨hc, ha, ⟨⟨hS, hE⟩, h1⟩, h2⟩
  · exact .inl ⟨hc, ha, ⟨T _ _ _ hE, T _ _ _ h1⟩, T _ _ _ h2⟩
  · exact .inr ⟨hc, ha, ⟨⟨T _ _ _ hS, T _ _ _ hE⟩, T _ _ _ h1⟩, T _ _ _ h2⟩

abbrev paW (w : World) (s : ByteArray) : World := ((((w.alloc (.cells #[.string s] 9)).alloc (.cells zeroC 25)).alloc (.cells #[.int .i64 0] 3)).alloc (.cells #[.int .i64 0] 26)).alloc (.cells #[.string s] 9)
theorem parse_laid (w : World) (s : ByteArray) : Blk (paW w s) w.heap.size 9 #[.string s] ∧ Blk (paW w s) (w.heap.size + 1) 25 zeroC ∧ Blk (paW w s) (w.heap.size + 2) 3 #[.int .i64 0] ∧ Blk (paW w s) (w.heap.size + 3) 26 #[.int .i64 0] ∧
    Blk (paW w s) (w.heap.size + 4) 9 #[.string s] ∧ (paW w s).heap.size = w.heap.size + 5 ∧ Below w.heap.size w (paW w s) :=
  ⟨((((blk_at rfl).alloc _).alloc _).alloc _).alloc _, (((blk_at (by simp)).alloc _).alloc _).alloc _, ((blk_at (by simp)).alloc _).alloc _, (blk_at (by simp)).alloc _, blk_at (by simp), by simp,
    (((((Below.refl _ _).alloc (Nat.le_refl _) _).alloc (by simp) _).alloc (by simp <;> omega) _).alloc (by simp <;> omega) _).alloc (by simp <;> omega) _⟩
theorem ko_below {A C : World} (h : Below A.heap.size A C) : KeepsOthers A C := ⟨h.size, fun k _ hk _ => (h.block k (Array.getElem?_eq_some_iff.1 hk).1).trans hk⟩

set_option maxRecDepth 100000 in
set_option maxHeartbeats 16000000 in
theorem expr_Parse (s : ByteArray) (hs : s.size ≤ 100000) (w : World) (hX : TabX w) :
    Calls Tryz.prog 13 #[.string s] w fun e w' => e = .returned (retX (Xs.parse KX s.data.toList)) ∧ Below w.heap.size w w' := by
  have HX := Lib.hid hX
  clear hX
  refine callsIn_wide.1 (callsIn_of_wp_marks (F := Fence.wide) (n := 3) Tryz.func13 rfl trivial ?_)
  simp only [Tryz.ntmps13, List.size_toArray, List.length_cons, List.length_nil, Nat.reduceAdd, Nat.reduceSub, Array.replicate_succ, Array.replicate_zero, List.push_toArray, List.append_toArray, List.nil_append, List.cons_append]
  refine wpIn_wide.2 ?_
  generalize hQ : bodyPostM Fence.wide 3 Tryz.prog Tryz.f13 _ = Q
  have HQ := Lib.hid hQ; clear hQ
  go_wp2_with (go_at_call 40; (with_reducible refine (expr_words _ _).mono ?_); rintro e w1 ⟨rfl, rfl⟩)
  obtain ⟨hS, hE, h1, h2, h5, hsz0, hbw⟩ := parse_laid w s
  obtain ⟨W0, hW0⟩ : ∃ W0, paW w s = W0 := ⟨_, rfl⟩
  unfold paW at hW0
  rw [hW0]
  unfold paW at hS hE h1 h2 h5 hsz0 hbw
  rw [hW0] at hS hE h1 h2 h5 hsz0 hbw
  clear hW0
  obtain ⟨bE, hbE⟩ : ∃ b, b = w.heap.size + 1 := ⟨_, rfl⟩
  obtain ⟨b1, hb1⟩ : ∃ b, b = w.heap.size + 1 + 1 := ⟨_, rfl⟩
  obtain ⟨b2, hb2⟩ : ∃ b, b = w.heap.size + 1 + 1 + 1 := ⟨_, rfl⟩
  obtain ⟨b5, hb5⟩ : ∃ b, b = w.heap.size + 1 + 1 + 1 + 1 := ⟨_, rfl⟩
  rw [← hb5, ← hb2, ← hb1, ← hbE]
  have HE : Hid (Blk W0 bE 25 zeroC) := Lib.hid (hbE ▸ hE)
  have H1 : Hid (Blk W0 b1 3 #[.int .i64 0]) := Lib.hid (hb1 ▸ h1)
  have H2 : Hid (Blk W0 b2 26 #[.int .i64 0]) := Lib.hid (hb2 ▸ h2)
  have H5 : Hid (Blk W0 b5 9 #[.string s]) := Lib.hid (hb5 ▸ h5)
  obtain ⟨bs, hbs⟩ : ∃ b, b = w.heap.size := ⟨_, rfl⟩
  have HS : Hid (Blk W0 bs 9 #[.string s]) := Lib.hid (hbs ▸ hS)
  have HBW := Lib.hid hbw
  have lS : bs < bE := by omega
  have l1 : bE < b1 := by omega
  have l2 : b1 < b2 := by omega
  have l5 : b2 < b5 := by omega
  have l6 : b5 < W0.heap.size := by omega
  have l0 : w.heap.size ≤ bs := by omega
  rw [← hbs]
  clear hS hE h1 h2 h5 hsz0 hbw hb1 hb2 hb5 hbE hbs
  refine (wpIn_wide (n := 3)).1 ?_
  refine wpIn_rangeFunc_ownG (F := Fence.wide) (n := 3) rfl (by omega) (gf := 71) (lb := #[.pointer (some ⟨b5, 0, none⟩)]) rfl trivial (enters_of Tryz.func71 (by kernel_rfl) rfl) (words_stops 2 (by omega) b5 s hs W0 H5.out) (fun h k => h.trans k) ?hKb (Below.refl _ _) (fun _ => rfl)
    (PaI s w bs bE b1 b2) (PaX s w bs bE b1 b2) (paI_own _ _ _ _ _ _ _ HBW.out.size) (paX_own _ _ _ _ _ _ _ HBW.out.size)
    ⟨rfl, ⟨⟨⟨HS.out, HE.out⟩, H1.out⟩, H2.out⟩, HBW.out⟩ ?aa ?assign ?body ?done ?stop
  case hKb => exact fun W l o o' hl _ _ _ => ⟨by simp, World.putObj_heap_other (by omega)⟩
  case assign =>
    intro l x W K hK
    gi_wp2
    exact hK
  case body =>
    rintro l pre x W ⟨rfl, ⟨⟨⟨hS, hE⟩, h1⟩, h2⟩, hbw⟩ hlen
    obtain ⟨hSc, hSf⟩ := hS.facts
    have hx0 := x.2.1
    have hxn := x.2.2
    have hw0 : x.1.2.data.toList[0]? = some (x.1.2[0]'hx0) := by rw [Array.getElem?_toList]; exact Array.getElem?_eq_getElem hx0
    by_cases h64 : x.1.2[0]'hx0 = 64
    · have d64 : (((x.1.2[0]'hx0).toNat : Int) != 64) = false := by rw [h64]; rfl
      have hTR : ∀ W, Calls Tryz.prog 41 #[.string (s.extract x.1.1 s.size), .string { data := #[32, 9] }] W fun e w' => e = .returned (.string ⟨(Lib.trimRightS (s.data.toList.drop x.1.1) [32, 9]).toArray⟩) ∧ Below W.heap.size W w' := fun W => by
        have := trim_right (s.extract x.1.1 s.size) W (by rw [ByteArray.size_extract]; omega)
        rw [slice_data] at this
        exact this
      rw [h64] at hw0
      by_cases htr : Lib.trimRightS (s.data.toList.drop x.1.1) [32, 9] = x.1.2.data.toList
      · have ha : Alone s x := ⟨hw0, htr⟩
        have hRe : (⟨x.1.2.data.toList.toArray⟩ : ByteArray) = x.1.2 := by rw [Array.toArray_toList]
        rw [htr, hRe] at hTR
        clear hRe
        have HTR := Lib.hid hTR
        have Ha := Lib.hid ha
        have hMa := fun W h => expr_Macro x.1.2 (by omega) W h
        have pp : (x.1.2.toList == x.1.2.toList) = true := beq_self_eq_true _
        cases hm : Xs.mac KX x.1.2.data.toList with
        | mk y is =>
        rw [hm] at hMa
        have HMa : Hid (∀ W, TabX W → Calls Tryz.prog 17 #[.string x.1.2] W fun e w' => e = .returned (.tuple #[exV y.second y.minute y.hour y.day y.month y.week y.anyDay y.anyWeek, .bool is]) ∧ Below W.heap.size W w') := Lib.hid hMa
        have Hm := Lib.hid hm
        have HB := Lib.hid hbw
        have XW := Lib.hid (HX.out.grow hbw)
        have HSE := Lib.hid (And.intro hS (And.intro hE (And.intro h1 h2)))
        clear hTR ha hMa hm htr hw0 hbw hS hE h1 h2
        cases is with
        | false =>
          gi_wp2_with (first
            | (refine ⟨trivial, ?_⟩; gi_at_call 41; (with_reducible refine (CallsIn.inRound l (callsIn_wide.2 (HTR.out _))).mono ?_); rintro e w2 ⟨rfl, hb2⟩
               have B2 := Lib.hid hb2; have X2 := Lib.hid (XW.out.grow hb2); clear hb2)
            | (refine ⟨trivial, ?_⟩; gi_at_call 17; (with_reducible refine (CallsIn.inRound l (callsIn_wide.2 (HMa.out _ X2.out))).mono ?_); rintro e w3 ⟨rfl, hb3⟩
               have B3 := Lib.hid (B2.out.trans (hb3.mono B2.out.size))
               obtain ⟨e1, e2, e3, e4⟩ := HSE.out
               have k2 := e2.below B3.out e2.lt
               have k3 := e3.below B3.out e3.lt
               have k4 := e4.below B3.out e4.lt
               have K3 := Lib.hid (And.intro k2 (And.intro k3 k4))
               have sE := k2.lt; have s1 := k3.lt; have s2 := k4.lt
               obtain ⟨ec, ef⟩ := k2.facts; obtain ⟨c1, f1⟩ := k3.facts; obtain ⟨c2, f2⟩ := k4.facts
               clear hb3 e1 e2 e3 e4 k2 k3 k4))
          have hmr : macR x.1.1 x.1.2.data.toList = (Xs.Ex.zero, x.1.1, 10) := by unfold macR; rw [Hm.out]; rfl
          have hbA : Below w.heap.size w w3 := HB.out.trans (B3.out.mono HB.out.size)
          obtain ⟨k2, k3, k4⟩ := K3.out
          refine ⟨((ko_below B3.out).trans ((ko_set (ko_set (ko_set8 (KeepsOthers.refl w3) bE _ _ _ _ _ _ _ _) _ _) _ _).trans (KeepsOthers.alloc _ _))).from _, x, rfl,
            (((below_set8 hbA (by omega) _ _ _ _ _ _ _ _).setCell (p := ⟨b1, 0, none⟩) (by show w.heap.size ≤ b1; omega) _).setCell (p := ⟨b2, 0, none⟩) (by show w.heap.size ≤ b2; omega) _).alloc (by simp; have := hbA.size; omega) _, .inl ⟨rfl, Ha.out, ?_⟩⟩
          rw [hmr]
          exact ⟨⟨((((k2.set8 (.int .u64 0) (.int .u64 0) (.int .u64 0) (.int .u64 0) (.int .u64 0) (.int .u64 0) (.bool false) (.bool false)).far (p := ⟨b1, 0, none⟩) (by show bE ≠ b1; omega) (.int .i64 x.1.1)).far (p := ⟨b2, 0, none⟩) (by show bE ≠ b2; omega) (.int .i64 10)).alloc _), ((((k3.far8 (show b1 ≠ bE by omega) (.int .u64 0) (.int .u64 0) (.int .u64 0) (.int .u64 0) (.int .u64 0) (.int .u64 0) (.bool false) (.bool false)).set_ 0 (.int .i64 x.1.1)).far (p := ⟨b2, 0, none⟩) (by show b1 ≠ b2; omega) (.int .i64 10)).alloc _)⟩,
            ((((k4.far8 (show b2 ≠ bE by omega) (.int .u64 0) (.int .u64 0) (.int .u64 0) (.int .u64 0) (.int .u64 0) (.int .u64 0) (.bool false) (.bool false)).far (p := ⟨b1, 0, none⟩) (by show b2 ≠ b1; omega) (.int .i64 x.1.1)).set_ 0 (.int .i64 10)).alloc _)⟩
        | true =>
          gi_wp2_with (first
            | (refine ⟨trivial, ?_⟩; gi_at_call 41; (with_reducible refine (CallsIn.inRound l (callsIn_wide.2 (HTR.out _))).mono ?_); rintro e w2 ⟨rfl, hb2⟩
               have B2 := Lib.hid hb2; have X2 := Lib.hid (XW.out.grow hb2); clear hb2)
            | (refine ⟨trivial, ?_⟩; gi_at_call 17; (with_reducible refine (CallsIn.inRound l (callsIn_wide.2 (HMa.out _ X2.out))).mono ?_); rintro e w3 ⟨rfl, hb3⟩
               have B3 := Lib.hid (B2.out.trans (hb3.mono B2.out.size))
               obtain ⟨e1, e2, e3, e4⟩ := HSE.out
               have k2 := e2.below B3.out e2.lt
               have k3 := e3.below B3.out e3.lt
               have k4 := e4.below B3.out e4.lt
               have K3 := Lib.hid (And.intro k2 (And.intro k3 k4))
               have sE := k2.lt; have s1 := k3.lt; have s2 := k4.lt
               obtain ⟨ec, ef⟩ := k2.facts; obtain ⟨c1, f1⟩ := k3.facts; obtain ⟨c2, f2⟩ := k4.facts
               clear hb3 e1 e2 e3 e4 k2 k3 k4))
          have hmr : macR x.1.1 x.1.2.data.toList = (y, 0, 0) := by unfold macR; rw [Hm.out]; rfl
          have hbA : Below w.heap.size w w3 := HB.out.trans (B3.out.mono HB.out.size)
          obtain ⟨k2, k3, k4⟩ := K3.out
          refine ⟨((ko_below B3.out).trans ((ko_set (ko_set (ko_set8 (KeepsOthers.refl w3) bE _ _ _ _ _ _ _ _) _ _) _ _).trans (KeepsOthers.alloc _ _))).from _, x, rfl,
            (((below_set8 hbA (by omega) _ _ _ _ _ _ _ _).setCell (p := ⟨b1, 0, none⟩) (by show w.heap.size ≤ b1; omega) _).setCell (p := ⟨b2, 0, none⟩) (by show w.heap.size ≤ b2; omega) _).alloc (by simp; have := hbA.size; omega) _, .inl ⟨rfl, Ha.out, ?_⟩⟩
          rw [hmr]
          exact ⟨⟨((((k2.set8 (.int .u64 y.second) (.int .u64 y.minute) (.int .u64 y.hour) (.int .u64 y.day) (.int .u64 y.month) (.int .u64 y.week) (.bool y.anyDay) (.bool y.anyWeek)).far (p := ⟨b1, 0, none⟩) (by show bE ≠ b1; omega) (.int .i64 0)).far (p := ⟨b2, 0, none⟩) (by show bE ≠ b2; omega) (.int .i64 0)).alloc _), ((((k3.far8 (show b1 ≠ bE by omega) (.int .u64 y.second) (.int .u64 y.minute) (.int .u64 y.hour) (.int .u64 y.day) (.int .u64 y.month) (.int .u64 y.week) (.bool y.anyDay) (.bool y.anyWeek)).set_ 0 (.int .i64 0)).far (p := ⟨b2, 0, none⟩) (by show b1 ≠ b2; omega) (.int .i64 0)).alloc _)⟩,
            ((((k4.far8 (show b2 ≠ bE by omega) (.int .u64 y.second) (.int .u64 y.minute) (.int .u64 y.hour) (.int .u64 y.day) (.int .u64 y.month) (.int .u64 y.week) (.bool y.anyDay) (.bool y.anyWeek)).far (p := ⟨b1, 0, none⟩) (by show b2 ≠ b1; omega) (.int .i64 0)).set_ 0 (.int .i64 0)).alloc _)⟩
      · have hna : ¬ Alone s x := fun h => htr h.2
        obtain ⟨R, hR⟩ : ∃ R : ByteArray, ⟨(Lib.trimRightS (s.data.toList.drop x.1.1) [32, 9]).toArray⟩ = R := ⟨_, rfl⟩
        have hne : (R.toList == x.1.2.toList) = false := by
          rw [beq_eq_false_iff_ne, ByteArray.toList_eq, ByteArray.toList_eq, ← hR]
          exact htr
        rw [hR] at hTR
        have HTR := Lib.hid hTR
        clear hTR hR htr hw0
        gi_wp2_with (refine ⟨trivial, ?_⟩; gi_at_call 41; (with_reducible refine (CallsIn.inRound l (callsIn_wide.2 (HTR.out _))).mono ?_); rintro e w2 ⟨rfl, hb2⟩)
        exact ⟨(ko_below hb2).from _, x, rfl, hbw.trans (hb2.mono hbw.size), .inr ⟨rfl, hna, ⟨⟨hS.below hb2 hS.lt, hE.below hb2 hE.lt⟩, h1.below hb2 h1.lt⟩, h2.below hb2 h2.lt⟩⟩
    · have hna : ¬ Alone s x := fun h => h64 (by have := h.1; rw [hw0] at this; injection this)
      have d64 : (((x.1.2[0]'hx0).toNat : Int) != 64) = true := by
        rw [bne_iff_ne]
        intro h
        apply h64
        have h' : (x.1.2[0]'hx0).toNat = 64 := by omega
        exact UInt8.toNat_inj.1 h'
      clear hw0 h64
      gi_wp2_with (refine ⟨trivial, ?_⟩)
      exact ⟨KeepsFrom.refl _ _, x, rfl, hbw, .inr ⟨rfl, hna, ⟨⟨hS, hE⟩, h1⟩, h2⟩⟩
  case done =>
    rename_i K hK
    rintro D xs W hD hS ⟨rfl, ⟨⟨⟨hSs, hE⟩, h1⟩, h2⟩, hbw⟩ hdef
    refine hK _ _ ?_
    clear hK K
    have hRd := fun W h => expr_read s hs W h
    have hpr : Xs.parse KX s.data.toList = Xs.read KX (Xs.words s.data.toList) s.size := parse_empty hS.symm
    obtain ⟨r, hr⟩ : ∃ r, Xs.read KX (Xs.words s.data.toList) s.size = r := ⟨_, rfl⟩
    rw [hr] at hRd hpr
    obtain ⟨y, a, er⟩ := r
    have HRd : Hid (∀ W, Tabs W → Calls Tryz.prog 42 #[.string s] W fun e w' => e = .returned (.tuple #[exV y.second y.minute y.hour y.day y.month y.week y.anyDay y.anyWeek, .int .i64 a, .int .i64 er]) ∧ Below W.heap.size W w') := Lib.hid hRd
    have HR := Lib.hid hpr
    have HB := Lib.hid hbw
    have HD := Lib.hid hdef
    have TW := Lib.hid (HX.out.tabs.grow hbw)
    have HSE := Lib.hid (And.intro hE (And.intro h1 h2))
    obtain ⟨sc, sf⟩ := hSs.facts
    clear hRd hpr hr hbw hdef hE h1 h2 hS
    go_wp2_with (go_at_call 42; (with_reducible refine (HRd.out _ TW.out).mono ?_); rintro e w2 ⟨rfl, hb2⟩; obtain ⟨e2, e3, e4⟩ := HSE.out; have k2 := e2.below hb2 e2.lt; have k3 := e3.below hb2 e3.lt; have k4 := e4.below hb2 e4.lt; have kd := (hb2.block D (Array.getElem?_eq_some_iff.1 HD.out).1).trans HD.out; have K2 := Lib.hid (And.intro k2 (And.intro k3 (And.intro k4 (And.intro kd (HB.out.trans (hb2.mono HB.out.size)))))); obtain ⟨ec, ef⟩ := k2.facts; obtain ⟨c1, f1⟩ := k3.facts; obtain ⟨c2, f2⟩ := k4.facts; clear hb2 e2 e3 e4 k2 k3 k4 kd)
    clear ec ef c1 f1 c2 f2 sc sf
    obtain ⟨k2, k3, k4, kd, kb⟩ := K2.out
    have hEf := (((k2.set8 (.int .u64 y.second) (.int .u64 y.minute) (.int .u64 y.hour) (.int .u64 y.day) (.int .u64 y.month) (.int .u64 y.week) (.bool y.anyDay) (.bool y.anyWeek)).far (p := ⟨b1, 0, none⟩) (by show bE ≠ b1; omega) (.int .i64 a)).far (p := ⟨b2, 0, none⟩) (by show bE ≠ b2; omega) (.int .i64 er))
    have h1f := (((k3.far8 (show b1 ≠ bE by omega) (.int .u64 y.second) (.int .u64 y.minute) (.int .u64 y.hour) (.int .u64 y.day) (.int .u64 y.month) (.int .u64 y.week) (.bool y.anyDay) (.bool y.anyWeek)).set_ 0 (.int .i64 a)).far (p := ⟨b2, 0, none⟩) (by show b1 ≠ b2; omega) (.int .i64 er))
    have h2f := (((k4.far8 (show b2 ≠ bE by omega) (.int .u64 y.second) (.int .u64 y.minute) (.int .u64 y.hour) (.int .u64 y.day) (.int .u64 y.month) (.int .u64 y.week) (.bool y.anyDay) (.bool y.anyWeek)).far (p := ⟨b1, 0, none⟩) (by show b2 ≠ b1; omega) (.int .i64 a)).set_ 0 (.int .i64 er))
    have hbf := ((below_set8 kb (show w.heap.size ≤ bE by omega) (.int .u64 y.second) (.int .u64 y.minute) (.int .u64 y.hour) (.int .u64 y.day) (.int .u64 y.month) (.int .u64 y.week) (.bool y.anyDay) (.bool y.anyWeek)).setCell (p := ⟨b1, 0, none⟩) (by show w.heap.size ≤ b1; omega) (.int .i64 a)).setCell (p := ⟨b2, 0, none⟩) (by show w.heap.size ≤ b2; omega) (.int .i64 er)
    have hdf := (ko_set (ko_set (ko_set8 (KeepsOthers.refl w2) bE (.int .u64 y.second) (.int .u64 y.minute) (.int .u64 y.hour) (.int .u64 y.day) (.int .u64 y.month) (.int .u64 y.week) (.bool y.anyDay) (.bool y.anyWeek)) ⟨b1, 0, none⟩ (.int .i64 a)) ⟨b2, 0, none⟩ (.int .i64 er)).same D _ kd rfl
    obtain ⟨ec, ef⟩ := (hEf.putObj (D := D) (by omega) (.deferred none)).facts
    obtain ⟨c1, f1⟩ := (h1f.putObj (D := D) (by omega) (.deferred none)).facts
    obtain ⟨c2, f2⟩ := (h2f.putObj (D := D) (by omega) (.deferred none)).facts
    have HBf := Lib.hid (below_put hbf (Nat.le_trans HBW.out.size hD) (.deferred none))
    have HDf := Lib.hid hdf
    clear hEf h1f h2f hbf hdf k2 k3 k4 kd kb K2
    rw [← HQ.out]
    refine ⟨by simp, .inl ⟨D, _, rfl, run_takeDeferred HDf.out, .tuple #[exV y.second y.minute y.hour y.day y.month y.week y.anyDay y.anyWeek, .int .i64 a, .int .i64 er], ?_, ?_⟩⟩
    · generalize World.putObj _ _ _ = WF at *
      clear HR HBf HDf HQ HX HB HD TW HSE HRd
      simp [results, Tryz.results13, go_sem, ec, ef, c1, f1, c2, f2]
    · exact ⟨by rw [HR.out]; rfl, HBf.out⟩
  case stop =>
    rename_i K hK
    rintro D c pre W hD hS ⟨x, rfl, hbw, ⟨rfl, ha, ⟨hE, h1⟩, h2⟩ | ⟨rfl, hna, ⟨⟨hSs, hE⟩, h1⟩, h2⟩⟩ hdef
    · have HR := Lib.hid (parse_alone hS ha)
      obtain ⟨r, hr⟩ : ∃ r, macR x.1.1 x.1.2.data.toList = r := ⟨_, rfl⟩
      rw [hr] at hE h1 h2 HR
      obtain ⟨y, a, er⟩ := r
      have HB := Lib.hid (below_put hbw (Nat.le_trans HBW.out.size hD) (.deferred none))
      obtain ⟨ec, ef⟩ := (hE.putObj (D := D) (by omega) (.deferred none)).facts
      obtain ⟨c1, f1⟩ := (h1.putObj (D := D) (by omega) (.deferred none)).facts
      obtain ⟨c2, f2⟩ := (h2.putObj (D := D) (by omega) (.deferred none)).facts
      have HD := Lib.hid hdef
      clear hS ha hr hbw hE h1 h2 hdef
      refine wpIn_wide.2 ?_
      go_wp2
      rw [← HQ.out]
      refine ⟨by simp, .inl ⟨D, _, rfl, run_takeDeferred HD.out, .tuple #[exV y.second y.minute y.hour y.day y.month y.week y.anyDay y.anyWeek, .int .i64 a, .int .i64 er], ?_, ?_⟩⟩
      · clear HR HB HD HQ HX
        simp [results, Tryz.results13, go_sem, ec, ef, c1, f1, c2, f2]
      · exact ⟨by rw [HR.out]; rfl, HB.out⟩
    · refine wpIn_exit ?_
      refine hK _ _ ?_
      clear hK K
      have hRd := fun W h => expr_read s hs W h
      have hpr : Xs.parse KX s.data.toList = Xs.read KX (Xs.words s.data.toList) s.size := parse_other hS hna
      obtain ⟨r, hr⟩ : ∃ r, Xs.read KX (Xs.words s.data.toList) s.size = r := ⟨_, rfl⟩
      rw [hr] at hRd hpr
      obtain ⟨y, a, er⟩ := r
      have HRd : Hid (∀ W, Tabs W → Calls Tryz.prog 42 #[.string s] W fun e w' => e = .returned (.tuple #[exV y.second y.minute y.hour y.day y.month y.week y.anyDay y.anyWeek, .int .i64 a, .int .i64 er]) ∧ Below W.heap.size W w') := Lib.hid hRd
      have HR := Lib.hid hpr
      have HB := Lib.hid hbw
      have HD := Lib.hid hdef
      have TW := Lib.hid (HX.out.tabs.grow hbw)
      have HSE := Lib.hid (And.intro hE (And.intro h1 h2))
      obtain ⟨sc, sf⟩ := hSs.facts
      clear hRd hpr hr hbw hdef hE h1 h2 hS
      go_wp2_with (go_at_call 42; (with_reducible refine (HRd.out _ TW.out).mono ?_); rintro e w2 ⟨rfl, hb2⟩; obtain ⟨e2, e3, e4⟩ := HSE.out; have k2 := e2.below hb2 e2.lt; have k3 := e3.below hb2 e3.lt; have k4 := e4.below hb2 e4.lt; have kd := (hb2.block D (Array.getElem?_eq_some_iff.1 HD.out).1).trans HD.out; have K2 := Lib.hid (And.intro k2 (And.intro k3 (And.intro k4 (And.intro kd (HB.out.trans (hb2.mono HB.out.size)))))); obtain ⟨ec, ef⟩ := k2.facts; obtain ⟨c1, f1⟩ := k3.facts; obtain ⟨c2, f2⟩ := k4.facts; clear hb2 e2 e3 e4 k2 k3 k4 kd)
      clear ec ef c1 f1 c2 f2 sc sf
      obtain ⟨k2, k3, k4, kd, kb⟩ := K2.out
      have hEf := (((k2.set8 (.int .u64 y.second) (.int .u64 y.minute) (.int .u64 y.hour) (.int .u64 y.day) (.int .u64 y.month) (.int .u64 y.week) (.bool y.anyDay) (.bool y.anyWeek)).far (p := ⟨b1, 0, none⟩) (by show bE ≠ b1; omega) (.int .i64 a)).far (p := ⟨b2, 0, none⟩) (by show bE ≠ b2; omega) (.int .i64 er))
      have h1f := (((k3.far8 (show b1 ≠ bE by omega) (.int .u64 y.second) (.int .u64 y.minute) (.int .u64 y.hour) (.int .u64 y.day) (.int .u64 y.month) (.int .u64 y.week) (.bool y.anyDay) (.bool y.anyWeek)).set_ 0 (.int .i64 a)).far (p := ⟨b2, 0, none⟩) (by show b1 ≠ b2; omega) (.int .i64 er))
      have h2f := (((k4.far8 (show b2 ≠ bE by omega) (.int .u64 y.second) (.int .u64 y.minute) (.int .u64 y.hour) (.int .u64 y.day) (.int .u64 y.month) (.int .u64 y.week) (.bool y.anyDay) (.bool y.anyWeek)).far (p := ⟨b1, 0, none⟩) (by show b2 ≠ b1; omega) (.int .i64 a)).set_ 0 (.int .i64 er))
      have hbf := ((below_set8 kb (show w.heap.size ≤ bE by omega) (.int .u64 y.second) (.int .u64 y.minute) (.int .u64 y.hour) (.int .u64 y.day) (.int .u64 y.month) (.int .u64 y.week) (.bool y.anyDay) (.bool y.anyWeek)).setCell (p := ⟨b1, 0, none⟩) (by show w.heap.size ≤ b1; omega) (.int .i64 a)).setCell (p := ⟨b2, 0, none⟩) (by show w.heap.size ≤ b2; omega) (.int .i64 er)
      have hdf := (ko_set (ko_set (ko_set8 (KeepsOthers.refl w2) bE (.int .u64 y.second) (.int .u64 y.minute) (.int .u64 y.hour) (.int .u64 y.day) (.int .u64 y.month) (.int .u64 y.week) (.bool y.anyDay) (.bool y.anyWeek)) ⟨b1, 0, none⟩ (.int .i64 a)) ⟨b2, 0, none⟩ (.int .i64 er)).same D _ kd rfl
      obtain ⟨ec, ef⟩ := (hEf.putObj (D := D) (by omega) (.deferred none)).facts
      obtain ⟨c1, f1⟩ := (h1f.putObj (D := D) (by omega) (.deferred none)).facts
      obtain ⟨c2, f2⟩ := (h2f.putObj (D := D) (by omega) (.deferred none)).facts
      have HBf := Lib.hid (below_put hbf (Nat.le_trans HBW.out.size hD) (.deferred none))
      have HDf := Lib.hid hdf
      clear hEf h1f h2f hbf hdf k2 k3 k4 kd kb K2
      rw [← HQ.out]
      refine ⟨by simp, .inl ⟨D, _, rfl, run_takeDeferred HDf.out, .tuple #[exV y.second y.minute y.hour y.day y.month y.week y.anyDay y.anyWeek, .int .i64 a, .int .i64 er], ?_, ?_⟩⟩
      · generalize World.putObj _ _ _ = WF at *
        clear HR HBf HDf HQ HX HB HD TW HSE HRd
        simp [results, Tryz.results13, go_sem, ec, ef, c1, f1, c2, f2]
      · exact ⟨by rw [HR.out]; rfl, HBf.out⟩
end Go.Proofs.YtjnlgaeedcklaaaGreatDoor
