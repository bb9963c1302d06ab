/-
  The document's Parse of any text, and Normal.
-/
import Derived.Test.YtjnlgaeedcklaaaGreatDoorYRefE
set_option linter.unusedVariables false
set_option linter.unusedSimpArgs false
namespace Go.Proofs.YtjnlgaeedcklaaaGreatDoor
open Go.RowKit

set_option maxRecDepth 100000 in
set_option maxHeartbeats 4000000 in
theorem ref7_ParseA (s : ByteArray) (hs : s.size ≤ 100000) (a : Nat) (wd : List UInt8) (hw : Xs.words s.data.toList = [(a, wd)]) (h64 : wd[0]? = some 64) (w : World) :
    Calls Tryz.prog 14 #[.string s] w fun e w' => e = .returned (retX (if (Xs.mac KX wd).2 then ((Xs.mac KX wd).1, 0, 0) else (Xs.Ex.zero, a, 10))) ∧ Below w.heap.size w w' := by
  have HWo := Lib.hid fun W => ref7_Words s hs W
  have HWd := Lib.hid hw
  obtain ⟨rv, hrv⟩ : ∃ rv : Xs.Ex × Nat × Int, (if (Xs.mac KX wd).2 then ((Xs.mac KX wd).1, 0, 0) else (Xs.Ex.zero, a, 10)) = rv := ⟨_, rfl⟩
  rw [hrv]
  have HRV := Lib.hid hrv
  clear hw hrv
  go_enter Tryz.func14, Tryz.ntmps14
  go_upto_region 2 with (go_at_call 43; (with_reducible refine (HWo.out _).mono ?_); rintro e w1 ⟨pre, lv, pv, rfl, hL, hP, hws, hb⟩)
  have hbE := (Blk.new w 25 zeroC).below hb (by simp)
  have HB := Lib.hid (((Below.refl w.heap.size w).alloc (Nat.le_refl _) (.cells zeroC 25)).trans (hb.mono (by simp)))
  have HE := Lib.hid hbE
  obtain ⟨A, c, rfl⟩ := owns_slice hL
  obtain ⟨A', c', rfl⟩ := owns_slice hP
  have HL := Lib.hid hL
  have HP := Lib.hid hP
  have hEl := hbE.lt
  obtain ⟨bE, hbe⟩ : ∃ b, b = w.heap.size := ⟨_, rfl⟩
  rw [← hbe] at HE hEl
  rw [← hbe]
  have l0 : w.heap.size ≤ bE := Nat.le_of_eq hbe.symm
  have l9 : bE ≤ w.heap.size := Nat.le_of_eq hbe
  rw [HWd.out] at hws
  obtain ⟨x, hx⟩ : ∃ x, pre = [x] := by
    rcases pre with _ | ⟨x, _ | ⟨y, r⟩⟩
    · cases hws
    · exact ⟨x, rfl⟩
    · cases hws
  have hxw : x.1.1 = a ∧ x.1.2.data.toList = wd := by
    rw [hx] at hws
    injection hws with h1 h2
    injection h1 with h1 h2
    exact ⟨h1, h2⟩
  have h1 : pre.length = 1 := by rw [hx]; rfl
  obtain ⟨g, rfl, hnc, hg, hcell⟩ := row_cell (k := 0) (u := .string x.1.2) HL.out (by rw [hx]; rfl)
  obtain ⟨gb, rfl, hnc2, hgb, hcell2⟩ := row_cell (k := 0) (u := .int .i64 x.1.1) HP.out (by rw [hx]; rfl)
  have hgb0 : bE < gb := by have := (own_at HP.out rfl).1; simp at this; omega
  have hTs : x.1.2.size ≤ 100000 := by have := x.2.2; omega
  obtain ⟨T, hT⟩ : ∃ T : ByteArray, x.1.2 = T := ⟨_, rfl⟩
  have hx0 : 0 < T.size := hT ▸ x.2.1
  rw [hT] at hcell hxw hTs
  rw [hxw.1] at hcell2
  have hw0 : T.data.toList[0]? = some (T[0]'hx0) := by rw [Array.getElem?_toList]; exact Array.getElem?_eq_getElem hx0
  have d64 : (((T[0]'hx0).toNat : Int) == 64) = true := by
    rw [beq_iff_eq]
    rw [hxw.2, h64] at hw0
    injection hw0 with hw0
    rw [← hw0]
    rfl
  have hMa := fun W => ref7_Macro T W
  rw [hxw.2] at hMa
  have ha5 : a ≤ 100000 := by have := x.2.2; rw [hxw.1] at this; omega
  rw [h1]
  clear hw0 h1 hx hT hxw hws hL hP hb hbE hbe HL HP HWo HWd h64
  have sg : gb < w1.heap.size := hgb
  cases hm : (Xs.mac KX wd).2 with
  | true =>
    obtain ⟨y, hy⟩ : ∃ y, (Xs.mac KX wd).1 = y := ⟨_, rfl⟩
    have HV : Hid (rv = (y, 0, 0)) := Lib.hid (by rw [← HRV.out, hm, if_pos rfl, hy])
    have HMa : Hid (∀ W, Calls Tryz.prog 18 #[.string T] W fun e w' => e = .returned (.tuple #[exV y.second y.minute y.hour y.day y.month y.week y.anyDay y.anyWeek, .bool true]) ∧ Below W.heap.size W w') := Lib.hid fun W => (hMa W).mono fun e w' q => ⟨q.1.trans (by unfold retM; rw [hm, hy]; rfl), q.2⟩
    clear hMa hm hy
    go_wp2_with (go_at_call 18; (with_reducible refine (HMa.out _).mono ?_); rintro e w3 ⟨rfl, hb3⟩; have HB3 := Lib.hid hb3; have E3 := Lib.hid (HE.out.below hb3 hEl); have es := E3.out.lt; obtain ⟨ec, ef⟩ := E3.out.facts; clear hb3)
    clear ec ef
    have hEf := (E3.out.set8 (.int .u64 y.second) (.int .u64 y.minute) (.int .u64 y.hour) (.int .u64 y.day) (.int .u64 y.month) (.int .u64 y.week) (.bool y.anyDay) (.bool y.anyWeek)).alloc (.cells #[.int .u64 y.second, .int .u64 y.minute, .int .u64 y.hour, .int .u64 y.day, .int .u64 y.month, .int .u64 y.week, .bool y.anyDay, .bool y.anyWeek] 25)
    have hBf := (below_set8 (HB.out.trans (HB3.out.mono HB.out.size)) l0 (.int .u64 y.second) (.int .u64 y.minute) (.int .u64 y.hour) (.int .u64 y.day) (.int .u64 y.month) (.int .u64 y.week) (.bool y.anyDay) (.bool y.anyWeek)).alloc (by simp; omega) (.cells #[.int .u64 y.second, .int .u64 y.minute, .int .u64 y.hour, .int .u64 y.day, .int .u64 y.month, .int .u64 y.week, .bool y.anyDay, .bool y.anyWeek] 25)
    unfold put8 at hEf hBf
    generalize World.alloc _ _ = WZ at hEf hBf ⊢
    obtain ⟨ec, ef⟩ := hEf.facts
    exact bodyPost_ret (v := .tuple #[exV y.second y.minute y.hour y.day y.month y.week y.anyDay y.anyWeek, .int .i64 0, .int .i64 0]) (by simp [results, Tryz.results14, go_sem, ec, ef]) rfl ⟨by rw [HV.out]; rfl, hBf⟩
  | false =>
    obtain ⟨y, hy⟩ : ∃ y, (Xs.mac KX wd).1 = y := ⟨_, rfl⟩
    have HV : Hid (rv = (Xs.Ex.zero, a, 10)) := Lib.hid (by rw [← HRV.out, hm, if_neg (by simp)])
    have HMa : Hid (∀ W, Calls Tryz.prog 18 #[.string T] W fun e w' => e = .returned (.tuple #[exV y.second y.minute y.hour y.day y.month y.week y.anyDay y.anyWeek, .bool false]) ∧ Below W.heap.size W w') := Lib.hid fun W => (hMa W).mono fun e w' q => ⟨q.1.trans (by unfold retM; rw [hm, hy]; rfl), q.2⟩
    clear hMa hm hy
    go_wp2_with (go_at_call 18; (with_reducible refine (HMa.out _).mono ?_); rintro e w3 ⟨rfl, hb3⟩; have HB3 := Lib.hid hb3; have E3 := Lib.hid (HE.out.below hb3 hEl); have es := E3.out.lt; obtain ⟨ec, ef⟩ := E3.out.facts; have yb := (hb3.cell (p := ⟨gb, 0, none⟩) sg).trans hcell2; clear hb3)
    obtain ⟨W3, hW3⟩ : ∃ W3, w3.alloc (.cells #[.int .u64 y.second, .int .u64 y.minute, .int .u64 y.hour, .int .u64 y.day, .int .u64 y.month, .int .u64 y.week, .bool y.anyDay, .bool y.anyWeek] 25) = W3 := ⟨_, rfl⟩
    rw [hW3]
    have EW := Lib.hid (hW3 ▸ E3.out.alloc (.cells #[.int .u64 y.second, .int .u64 y.minute, .int .u64 y.hour, .int .u64 y.day, .int .u64 y.month, .int .u64 y.week, .bool y.anyDay, .bool y.anyWeek] 25))
    have yW : W3.cell? ⟨gb, 0, none⟩ = some (.int .i64 a) := by
      rw [← hW3]
      exact (((Below.refl w3.heap.size w3).alloc (Nat.le_refl _) _).cell (p := ⟨gb, 0, none⟩) (Nat.lt_of_lt_of_le sg HB3.out.size)).trans yb
    have BW := Lib.hid (hW3 ▸ (HB.out.trans (HB3.out.mono HB.out.size)).alloc (HB.out.trans (HB3.out.mono HB.out.size)).size (.cells #[.int .u64 y.second, .int .u64 y.minute, .int .u64 y.hour, .int .u64 y.day, .int .u64 y.month, .int .u64 y.week, .bool y.anyDay, .bool y.anyWeek] 25))
    clear hW3 ec ef yb es
    obtain ⟨ec, ef⟩ := EW.out.facts
    refine wp_region_held_drew (S := fun V => V.cell? ⟨gb, 0, none⟩ = some (.int .i64 a)) (by kernel_rfl) ?hs101 (fun hHeld => ?rs101)
    case hs101 => exact yW
    refine wpAnyH_take (i := 0) (oi := ?oi102) (v := ?vv102) ?hi102 (by kernel_rfl) (by kernel_rfl) (by kernel_rfl) ?hq102 (Or.inl ⟨?hw102, ?hy102⟩) (by assumption) ?rs102
    case hi102 => (simp only [Hg]; rfl)
    case hq102 => exact fun _ _ _ h => h
    case hw102 => rfl
    case hy102 => (intro w hSw; (try dsimp only at hSw); go_simp <;> with_reducible rfl)
    simp only [Hp]
    refine wpAnyH_take (i := 1) (oi := ?oi103) (v := ?vv103) ?hi103 (by kernel_rfl) (by kernel_rfl) (by kernel_rfl) ?hq103 (Or.inl ⟨?hw103, ?hy103⟩) (by assumption) ?rs103
    case hi103 => (simp only [Hg]; rfl)
    case hq103 => exact fun _ _ _ h => h
    case hw103 => rfl
    case hy103 => (intro w hSw; (try dsimp only at hSw); go_simp <;> with_reducible rfl)
    simp only [Hp]
    refine wpAnyH_take (i := 2) (oi := ?oi104) (v := ?vv104) ?hi104 (by kernel_rfl) (by kernel_rfl) (by kernel_rfl) ?hq104 (Or.inl ⟨?hw104, ?hy104⟩) (by assumption) ?rs104
    case hi104 => (simp only [Hg]; rfl)
    case hq104 => exact fun _ _ _ h => h
    case hw104 => rfl
    case hy104 => (intro w hSw; (try dsimp only at hSw); go_simp <;> with_reducible rfl)
    simp only [Hp]
    refine wpAnyH_take (i := 3) (oi := ?oi105) (v := ?vv105) ?hi105 (by kernel_rfl) (by kernel_rfl) (by kernel_rfl) ?hq105 (Or.inl ⟨?hw105, ?hy105⟩) (by assumption) ?rs105
    case hi105 => (simp only [Hg]; rfl)
    case hq105 => exact fun _ _ _ h => h
    case hw105 => rfl
    case hy105 => (intro w hSw; (try dsimp only at hSw); go_simp <;> with_reducible rfl)
    simp only [Hp]
    refine wpAnyH_ready (rs := [4]) (by kernel_rfl) (by simp) (AllReadyH.cons (o := ?oi106) ?hi106 (fun K hK => ?rs106) AllReadyH.nil)
    case hi106 => (simp only [Hg]; rfl)
    clear hHeld
    go_simp
    refine hK.out _ _ ?hs106 (fun hHeld => ?rt106)
    case hs106 => exact (drew_cell7 _ _).trans ((cell_far87 (show gb ≠ bE by omega) _ _ _ _ _ _ _ _).trans yW)
    clear hK K
    try simp only [Hp]
    refine wpAnyH_take (i := 5) (oi := ?oi107) (v := ?vv107) ?hi107 (by kernel_rfl) (by kernel_rfl) (by kernel_rfl) ?hq107 (Or.inl ⟨?hw107, ?hy107⟩) (by assumption) ?rs107
    case hi107 => (simp only [Hg]; rfl)
    case hq107 => exact fun _ _ _ h => h
    case hw107 => rfl
    case hy107 => (intro w hSw; (try dsimp only at hSw); go_simp <;> with_reducible rfl)
    simp only [Hp]
    refine wpAnyH_take (i := 6) (oi := ?oi108) (v := ?vv108) ?hi108 (by kernel_rfl) (by kernel_rfl) (by kernel_rfl) ?hq108 (Or.inl ⟨?hw108, ?hy108⟩) (by assumption) ?rs108
    case hi108 => (simp only [Hg]; rfl)
    case hq108 => exact fun _ _ _ h => h
    case hw108 => rfl
    case hy108 => (intro w hSw; (try dsimp only at hSw); go_simp <;> with_reducible rfl)
    simp only [Hp]
    refine wpAnyH_done (by kernel_rfl) ?_ _
    go_wp2_with fail
    clear ec ef
    have hEf := (EW.out.set8 (.int .u64 0) (.int .u64 0) (.int .u64 0) (.int .u64 0) (.int .u64 0) (.int .u64 0) (.bool false) (.bool false)).drew
    have hBf := (below_set8 BW.out l0 (.int .u64 0) (.int .u64 0) (.int .u64 0) (.int .u64 0) (.int .u64 0) (.int .u64 0) (.bool false) (.bool false)).drew
    unfold put8 at hEf hBf
    generalize World.drew _ = WZ at hEf hBf ⊢
    obtain ⟨ec, ef⟩ := hEf.facts
    exact bodyPost_ret (v := .tuple #[exV 0 0 0 0 0 0 false false, .int .i64 a, .int .i64 10]) (by simp [results, Tryz.results14, go_sem, ec, ef]) rfl ⟨by rw [HV.out]; rfl, hBf⟩


theorem ref7_Parse (s : ByteArray) (hs : s.size ≤ 100000) (w : World) :
    Calls Tryz.prog 14 #[.string s] w fun e w' => e = .returned (retX (Xs.parse KX s.data.toList)) ∧ Below w.heap.size w w' := by
  by_cases h : ∃ a wd, Xs.words s.data.toList = [(a, wd)] ∧ wd[0]? = some 64
  · obtain ⟨a, wd, hw, h64⟩ := h
    have := ref7_ParseA s hs a wd hw h64 w
    have e : Xs.parse KX s.data.toList = if (Xs.mac KX wd).2 then ((Xs.mac KX wd).1, 0, 0) else (Xs.Ex.zero, a, 10) := by
      unfold Xs.parse
      rw [hw]
      simp only
      rw [if_pos h64]
    rw [e]
    exact this
  · have := ref7_ParseR s hs h w
    have e : Xs.parse KX s.data.toList = Xs.read KX (Xs.words s.data.toList) s.data.toList.length := by
      unfold Xs.parse
      split
      · rename_i a wd hw
        rw [if_neg fun h64 => h ⟨a, wd, hw, h64⟩, hw]
      · rfl
    rw [e, show s.data.toList.length = s.size by rw [Array.length_toList]; rfl]
    exact this

set_option maxHeartbeats 2000000 in
theorem ref7_Normal (s : ByteArray) (hs : s.size ≤ 100000) (w : World) :
    Calls Tryz.prog 16 #[.string s] w fun e w' => e = .returned (retN (Xs.normalX KX s.data.toList)) ∧ Below w.heap.size w w' := by
  have hP := fun W => ref7_Parse s hs W
  rcases Xs.parse_factsX kinds_ok mac_ok s.data.toList with ⟨h0, h1, hc⟩ | ⟨hz, hp, he⟩
  · obtain ⟨x, hx⟩ : ∃ x, (Xs.parse KX s.data.toList).1 = x := ⟨_, rfl⟩
    have hr : Xs.parse KX s.data.toList = (x, 0, 0) := Prod.ext hx (Prod.ext h1 h0)
    rw [hx] at hc
    have hN : Xs.normalX KX s.data.toList = (Xs.joinS (Xs.texts KX x), 0, 0) := normX_ok hr hc
    rw [hN]
    rw [hr] at hP
    have HP : Hid (∀ W, Calls Tryz.prog 14 #[.string s] W fun e w' => e = .returned (.tuple #[exV x.second x.minute x.hour x.day x.month x.week x.anyDay x.anyWeek, .int .i64 0, .int .i64 0]) ∧ Below W.heap.size W w') := Lib.hid hP
    have hPr := fun W => ref7_Print x W (small_of_check hc)
    rw [printX_ok hc] at hPr
    obtain ⟨T, hT⟩ : ∃ T, strOf (Xs.joinS (Xs.texts KX x)) = T := ⟨_, rfl⟩
    have HPr : Hid (∀ W, Calls Tryz.prog 20 #[exV x.second x.minute x.hour x.day x.month x.week x.anyDay x.anyWeek] W fun e w' => e = .returned (.tuple #[.string T, .int .i64 0]) ∧ Below W.heap.size W w') := Lib.hid (by rw [← hT]; exact hPr)
    show Calls _ _ _ _ fun e w' => e = .returned (.tuple #[.string (strOf (Xs.joinS (Xs.texts KX x))), .int .i64 0, .int .i64 0]) ∧ _
    rw [hT]
    clear hP h0 h1 hc hx hr hN hPr hT
    go_enter Tryz.func16, Tryz.ntmps16
    go_wp2_with (first
      | (go_at_call 14; (with_reducible refine (HP.out _).mono ?_); rintro e w1 ⟨rfl, hb1⟩; have B1 := Lib.hid hb1; clear hb1)
      | (go_at_call 20; (with_reducible refine (HPr.out _).mono ?_); rintro e w2 ⟨rfl, hb2⟩; have B2 := Lib.hid ((B1.out.alloc B1.out.size _).trans (hb2.mono (Nat.le_trans B1.out.size (by simp)))); clear hb2))
    exact bodyPost_ret (v := .tuple #[.string T, .int .i64 0, .int .i64 0]) (by simp [results, Tryz.results16, go_sem]) rfl ⟨rfl, B2.out⟩
  · obtain ⟨p, hp'⟩ : ∃ p, (Xs.parse KX s.data.toList).2.1 = p := ⟨_, rfl⟩
    obtain ⟨er, hr'⟩ : ∃ er, (Xs.parse KX s.data.toList).2.2 = er := ⟨_, rfl⟩
    have hr : Xs.parse KX s.data.toList = (Xs.Ex.zero, p, er) := Prod.ext hz (Prod.ext hp' hr')
    rw [hr'] at he
    rw [hp'] at hp
    have he0 : er ≠ 0 := by omega
    have hN : Xs.normalX KX s.data.toList = ([], p, er) := normX_bad hr he0
    rw [hN]
    rw [hr] at hP
    have HP : Hid (∀ W, Calls Tryz.prog 14 #[.string s] W fun e w' => e = .returned (.tuple #[exV 0 0 0 0 0 0 false false, .int .i64 p, .int .i64 er]) ∧ Below W.heap.size W w') := Lib.hid hP
    have de : (er != 0) = true := by rw [bne, beq_eq_false_iff_ne.2 he0]; rfl
    have hp5 : p ≤ 100000 := by rw [Array.length_toList] at hp; exact Nat.le_trans hp hs
    show Calls _ _ _ _ fun e w' => e = .returned (.tuple #[.string ⟨#[]⟩, .int .i64 p, .int .i64 er]) ∧ _
    clear hP hz hp he hp' hr' hr hN he0
    go_enter Tryz.func16, Tryz.ntmps16
    go_wp2_with (go_at_call 14; (with_reducible refine (HP.out _).mono ?_); rintro e w1 ⟨rfl, hb1⟩; have B1 := Lib.hid hb1; clear hb1)
    exact bodyPost_ret (v := .tuple #[.string ⟨#[]⟩, .int .i64 p, .int .i64 er]) (by simp [results, Tryz.results16, go_sem]) rfl ⟨rfl, B1.out.alloc B1.out.size _⟩
end Go.Proofs.YtjnlgaeedcklaaaGreatDoor
