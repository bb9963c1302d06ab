/-
  ExprTexts: the walk, the row, the card.
-/
import Derived.Test.YtjnlgaeedcklaaaGreatDoorXRow
import Derived.Test.YtjnlgaeedcklaaaGreatDoorXWorks
import Derived.Test.YtjnlgaeedcklaaaGreatDoorXMade
import Derived.Test.YtjnlgaeedcklaaaGreatDoorXSplit
set_option linter.unusedVariables false
set_option linter.unusedSimpArgs false
namespace Go.Proofs.YtjnlgaeedcklaaaGreatDoor.exprTexts
open Go.ChangeShapes Go.WideShapes Go.ChangeAt Go.RowKit

theorem law_Split (T : ByteArray) (h : T.size ≤ 100000) (W : World) (hX : TabX W) : Calls Tryz.prog 30 #[.string T, .string { data := #[32] }] W fun e w' =>
    e = .returned (.slice (some ⟨W.heap.size, 0, none⟩) (Lib.countB T ⟨#[32]⟩ + 1) (Lib.countB T ⟨#[32]⟩ + 1)) ∧ w' = W.alloc (.cells ((Lib.splitB ⟨#[32]⟩ 0 (Lib.countB T ⟨#[32]⟩) T).map Value.string).toArray 9) := by
  obtain ⟨m, hm⟩ := hX.ml
  exact Tryz.strings_Split T ⟨#[32]⟩ m W (by omega) hm (by decide)

set_option maxRecDepth 100000 in
set_option maxHeartbeats 4000000 in
theorem walk (l : Nat → Nat) (k : Nat) (hl : ∀ i, i < 6 → l i < 18446744073709551616) (hk : k < 256) (w : World) (hX : TabX w) :
    Calls Tryz.prog 9 #[setsV l k] w fun e w' => e = .returned (.bool true) ∧ Below w.heap.size w w' := by
  have HX := Lib.hid hX; clear hX
  have HW := Lib.hid law_works
  obtain ⟨x, hx⟩ : ∃ x, madeX l (decide (k % 2 = 1)) (decide (k / 2 % 2 = 1)) = x := ⟨_, rfl⟩
  have hc : Xs.checkB KX x = true := hx ▸ made_check _ _ _
  have HM : Hid (∀ W, Calls Tryz.prog 25 #[setsV l k] W fun e w' => e = .returned (exV x.second x.minute x.hour x.day x.month x.week x.anyDay x.anyWeek) ∧ Below W.heap.size W w') := Lib.hid fun W => by
    have := law_Made l k hl hk W
    rw [hx] at this
    exact this
  obtain ⟨T, hT⟩ : ∃ T, strOf (Xs.joinS (Xs.texts KX x)) = T := ⟨_, rfl⟩
  have hTl : T.data.toList = Xs.joinS (Xs.texts KX x) := by rw [← hT]; rfl
  have hTs : T.size ≤ 100000 := by
    have h := texts_join_len x
    rw [← hTl, Array.length_toList] at h
    exact Nat.le_trans h (by decide)
  have hr : Xs.parse KX T.data.toList = (x, 0, 0) := by rw [hTl]; exact Xs.back kinds_ok hc
  have hP := fun W h => expr_Parse T hTs W h
  have hN := fun W h => expr_Normal T hTs W h
  have hPr := fun W h => expr_Print x W (small_of_check hc) h
  have hCk := fun W h => expr_Check x W (small_of_check hc) h
  rw [hr] at hP
  rw [normX_ok hr hc] at hN
  rw [printX_ok hc] at hPr
  rw [chk_ok hc] at hCk
  have HP : Hid (∀ W, TabX W → Calls Tryz.prog 13 #[.string T] W fun e w' => e = .returned (.tuple #[exV x.second x.minute x.hour x.day x.month x.week x.anyDay x.anyWeek, .int .i64 0, .int .i64 0]) ∧ Below W.heap.size W w') := Lib.hid hP
  have HN : Hid (∀ W, TabX W → Calls Tryz.prog 15 #[.string T] W fun e w' => e = .returned (.tuple #[.string T, .int .i64 0, .int .i64 0]) ∧ Below W.heap.size W w') := Lib.hid fun W h => (hN W h).mono fun e w' q => ⟨q.1.trans (by rw [← hT]; rfl), q.2⟩
  have HPr : Hid (∀ W, Tabs W → Calls Tryz.prog 19 #[exV x.second x.minute x.hour x.day x.month x.week x.anyDay x.anyWeek] W fun e w' => e = .returned (.tuple #[.string T, .int .i64 0]) ∧ Below W.heap.size W w') := Lib.hid (by rw [← hT]; exact hPr)
  have HCk := Lib.hid hCk
  obtain ⟨n, hn⟩ : ∃ n, (Xs.texts KX x).length = n := ⟨_, rfl⟩
  have HSp : Hid (∀ W, TabX W → Calls Tryz.prog 30 #[.string T, .string { data := #[32] }] W fun e w' => e = .returned (.slice (some ⟨W.heap.size, 0, none⟩) n n) ∧ Below W.heap.size W w') := Lib.hid fun W h => by
    have := law_Split T (by omega) W h
    rw [← hT, (split_texts hc).1, hn, hT] at this
    exact this.mono fun e w' ⟨h1, h2⟩ => ⟨h1, by rw [h2]; exact (Below.refl _ _).alloc (Nat.le_refl _) _⟩
  have hlen := Xs.texts_len KX x
  rw [hn] at hlen
  clear hP hN hPr hCk hx hr hT hTl hTs hn hc
  by_cases h1 : x.second = 1
  · have d1 : ((x.second : Int) == 1) = true := by rw [beq_iff_eq]; omega
    rw [if_pos h1] at hlen
    subst hlen
    clear h1
    go_enter Tryz.func9, Tryz.ntmps9
    go_wp2_with (first
      | (go_at_call 25; (with_reducible refine (HM.out _).mono ?_); clear HM; rintro e w1 ⟨rfl, hb1⟩; have X1 := Lib.hid ((HX.out.alloc (.cells (setsC l k) 42)).grow hb1); have B1 := Lib.hid (((Below.refl w.heap.size w).alloc (Nat.le_refl _) (.cells (setsC l k) 42)).trans (hb1.mono (by simp))); have K1 := Lib.hid (Blk.new w1 25 (exC x.second x.minute x.hour x.day x.month x.week x.anyDay x.anyWeek)); clear hb1)
      | (go_at_call 19; (with_reducible refine (HPr.out _ (X1.out.alloc _).tabs).mono ?_); clear HPr; rintro e w2 ⟨rfl, hb2⟩; have X2 := Lib.hid ((X1.out.alloc _).grow hb2); have K2 := Lib.hid (K1.out.below hb2 K1.out.lt); have B2 := Lib.hid ((B1.out.alloc B1.out.size _).trans (hb2.mono (Nat.le_trans B1.out.size (by simp)))); clear hb2)
      | (go_at_call 13; (with_reducible refine (HP.out _ X2.out).mono ?_); clear HP; rintro e w3 ⟨rfl, hb3⟩; have X3 := Lib.hid (X2.out.grow hb3); have K3 := Lib.hid (K2.out.below hb3 K2.out.lt); have J3 := Lib.hid (Blk.new w3 25 (exC x.second x.minute x.hour x.day x.month x.week x.anyDay x.anyWeek)); have B3 := Lib.hid (B2.out.trans (hb3.mono B2.out.size)); clear hb3)
      | (go_at_call 15; (with_reducible refine (HN.out _ (X3.out.alloc _)).mono ?_); clear HN; rintro e w4 ⟨rfl, hb4⟩; have X4 := Lib.hid ((X3.out.alloc _).grow hb4); have K4 := Lib.hid ((K3.out.alloc (.cells (exC x.second x.minute x.hour x.day x.month x.week x.anyDay x.anyWeek) 25)).below hb4 (K3.out.alloc (.cells (exC x.second x.minute x.hour x.day x.month x.week x.anyDay x.anyWeek) 25)).lt); have J4 := Lib.hid (J3.out.below hb4 J3.out.lt); obtain ⟨kc4, kf4⟩ := K4.out.facts; have B4 := Lib.hid ((B3.out.alloc B3.out.size _).trans (hb4.mono (Nat.le_trans B3.out.size (by simp)))); clear hb4)
      | (go_at_call 23; (with_reducible refine (HCk.out _ X4.out.tabs).mono ?_); clear HCk kc4 kf4; rintro e w5 ⟨rfl, hb5⟩; have X5 := Lib.hid (X4.out.grow hb5); obtain ⟨kc5, kf5⟩ := (K4.out.below hb5 K4.out.lt).facts; obtain ⟨jc5, jf5⟩ := (J4.out.below hb5 J4.out.lt).facts; have B5 := Lib.hid (B4.out.trans (hb5.mono B4.out.size)); clear hb5)
      | (go_at_call 30; (with_reducible refine (HSp.out _ X5.out).mono ?_); clear HSp; rintro e w7 ⟨rfl, hb7⟩; have X7 := Lib.hid (X5.out.grow hb7); have B7 := Lib.hid (B5.out.trans (hb7.mono B5.out.size)); clear hb7)
      | (go_at_call 12; (with_reducible refine (HW.out _ X7.out).mono ?_); rintro e w6 ⟨rfl, hb6⟩))
    go_ret
    exact ⟨rfl, B7.out.trans (hb6.mono B7.out.size)⟩
  · have d1 : ((x.second : Int) == 1) = false := by rw [beq_eq_false_iff_ne]; omega
    rw [if_neg h1] at hlen
    subst hlen
    clear h1
    go_enter Tryz.func9, Tryz.ntmps9
    go_wp2_with (first
      | (go_at_call 25; (with_reducible refine (HM.out _).mono ?_); clear HM; rintro e w1 ⟨rfl, hb1⟩; have X1 := Lib.hid ((HX.out.alloc (.cells (setsC l k) 42)).grow hb1); have B1 := Lib.hid (((Below.refl w.heap.size w).alloc (Nat.le_refl _) (.cells (setsC l k) 42)).trans (hb1.mono (by simp))); have K1 := Lib.hid (Blk.new w1 25 (exC x.second x.minute x.hour x.day x.month x.week x.anyDay x.anyWeek)); clear hb1)
      | (go_at_call 19; (with_reducible refine (HPr.out _ (X1.out.alloc _).tabs).mono ?_); clear HPr; rintro e w2 ⟨rfl, hb2⟩; have X2 := Lib.hid ((X1.out.alloc _).grow hb2); have K2 := Lib.hid (K1.out.below hb2 K1.out.lt); have B2 := Lib.hid ((B1.out.alloc B1.out.size _).trans (hb2.mono (Nat.le_trans B1.out.size (by simp)))); clear hb2)
      | (go_at_call 13; (with_reducible refine (HP.out _ X2.out).mono ?_); clear HP; rintro e w3 ⟨rfl, hb3⟩; have X3 := Lib.hid (X2.out.grow hb3); have K3 := Lib.hid (K2.out.below hb3 K2.out.lt); have J3 := Lib.hid (Blk.new w3 25 (exC x.second x.minute x.hour x.day x.month x.week x.anyDay x.anyWeek)); have B3 := Lib.hid (B2.out.trans (hb3.mono B2.out.size)); clear hb3)
      | (go_at_call 15; (with_reducible refine (HN.out _ (X3.out.alloc _)).mono ?_); clear HN; rintro e w4 ⟨rfl, hb4⟩; have X4 := Lib.hid ((X3.out.alloc _).grow hb4); have K4 := Lib.hid ((K3.out.alloc (.cells (exC x.second x.minute x.hour x.day x.month x.week x.anyDay x.anyWeek) 25)).below hb4 (K3.out.alloc (.cells (exC x.second x.minute x.hour x.day x.month x.week x.anyDay x.anyWeek) 25)).lt); have J4 := Lib.hid (J3.out.below hb4 J3.out.lt); obtain ⟨kc4, kf4⟩ := K4.out.facts; have B4 := Lib.hid ((B3.out.alloc B3.out.size _).trans (hb4.mono (Nat.le_trans B3.out.size (by simp)))); clear hb4)
      | (go_at_call 23; (with_reducible refine (HCk.out _ X4.out.tabs).mono ?_); clear HCk kc4 kf4; rintro e w5 ⟨rfl, hb5⟩; have X5 := Lib.hid (X4.out.grow hb5); obtain ⟨kc5, kf5⟩ := (K4.out.below hb5 K4.out.lt).facts; obtain ⟨jc5, jf5⟩ := (J4.out.below hb5 J4.out.lt).facts; have B5 := Lib.hid (B4.out.trans (hb5.mono B4.out.size)); clear hb5)
      | (go_at_call 30; (with_reducible refine (HSp.out _ X5.out).mono ?_); clear HSp; rintro e w7 ⟨rfl, hb7⟩; have X7 := Lib.hid (X5.out.grow hb7); have B7 := Lib.hid (B5.out.trans (hb7.mono B5.out.size)); clear hb7)
      | (go_at_call 12; (with_reducible refine (HW.out _ X7.out).mono ?_); rintro e w6 ⟨rfl, hb6⟩))
    go_ret
    exact ⟨rfl, B7.out.trans (hb6.mono B7.out.size)⟩

set_option maxRecDepth 100000 in
theorem contract (H : Type) (enc : TypeId × Value → H) (W : World) (base : Nat) (args : Array Value) (ds gs : List (DataW H)) (before : List MemPlace)
    (hval : ∀ (j : Nat) t v, Tryz.f9.params[j]? = some t → args[j]? = some v → Value.okWide Tryz.prog W .any base t v)
    (hW : DataW.Whole enc Tryz.prog Tryz.f9.params.toList Rows.exprTextsSpec.vars false W args.toList ds gs before) (hL : laidMetH Tryz.prog Rows.exprTextsRow.laid W) (hS : W.ShapedOpen Tryz.prog) :
    Calls Tryz.prog 9 args W fun e W' => ∃ v, e = .returned v ∧ Rows.exprTextsSpec.post enc Tryz.prog Tryz.f9 false true false false W args v W' := by
  have hT : TabX W := XRow.tabs_of hL hS
  have hW' := hW
  obtain ⟨p, q, hA0, hV, rfl, hfz, hnd⟩ := hW
  have hA : DataW.TrodAll enc Tryz.prog W 0 (fun _ => true) true Tryz.f9.params.toList args.toList ds p := hA0
  rw [Tryz.params9] at hA hval
  obtain ⟨v0, vs0, d0, ds0, p0, q0, hargs, rfl, rfl, h0, r0⟩ := trodAll_cons hA
  obtain ⟨rfl, rfl, rfl⟩ := trodAll_nil r0
  obtain rfl : args = #[v0] := by cases args; simp_all
  obtain ⟨rfl, rfl⟩ := trodVars_none hV
  have h0k := h0
  obtain ⟨l0, k0, rfl, hl0, hk0⟩ := XRow.open_sets (hval 0 42 v0 rfl rfl) h0
  clear hA0
  simp only [List.append_nil] at hW'
  refine (walk l0 k0 hl0 hk0 W hT ).mono fun e W' ⟨he, hb⟩ => ?_
  subst he
  exact ⟨_, rfl, _, _, _, [], _, [], hW', trodAll_cons_mk (shut_bool Tryz.underlying4 _) trodAll_mk0, (trodAll_cons_mk (Below.trod (by kernel_rfl) (by kernel_rfl) (of_decide_eq_true (by kernel_rfl)) h0k hb (fun x hx => hW'.lt x (by simpa using hx))) trodAll_mk0), rfl, hb.frame _, fun h => by cases h⟩

set_option maxRecDepth 100000 in
theorem lifted (os : Os) (started : os.Started) (H : Type) (enc : TypeId × Value → H) (F : Stop.Interp) :
    ReturnsInHanded {} Tryz.checked os 9 .any ((OpenSpec.ofChange Rows.exprTextsSpec).preRow enc Tryz.prog Tryz.f9 Rows.exprTextsRow.domain false Rows.exprTextsRow.laid) (((OpenSpec.ofChange Rows.exprTextsSpec).at F).post enc Tryz.prog Tryz.f9 false true false false) := by
  refine returnsInHanded_of_row (C := Tryz.checked) (s := OpenSpec.ofChange Rows.exprTextsSpec) XRow.own started (by kernel_rfl) Tryz.func9
    (ChangeSpec.witness_shaped (enc := enc) (C := Tryz.checked) (os := os) (X := fun w _ => laidMetH Tryz.prog XRow.laidL w) false (World.laidAll Tryz.prog os XRow.laidL) #[.agg #[.int .u64 0, .int .u64 0, .int .u64 0, .int .u64 0, .int .u64 0, .int .u64 0, .int .u8 0]] 8 (World.laidAll_os _ _ _)
      (XRow.wit_shaped os _) (by kernel_rfl) (by kernel_rfl) (by kernel_rfl) (XRow.wit_laid os _)) ?_
  intro W base args ds gs before hval hW _ _ _ hL hS _
  exact contract H enc W base args ds gs before hval hW hL hS

theorem said : Rows.ExprTextsSaid :=
  OpenClaim.holds_of_cond 9 Tryz.f9 rfl rfl rfl rfl rfl rfl rfl ⟨rfl, rfl, rfl, rfl, rfl⟩ rfl rfl rfl rfl rfl (by kernel_rfl) Tryz.func9 (by kernel_rfl)
    (of_decide_eq_true (by kernel_rfl)) (by unfold Func.isWrapper; first | (rw [if_pos (by decide +kernel)]; kernel_rfl) | (rw [if_neg (by decide +kernel)]; exact ⟨rfl, rfl⟩))
    (fun os started H enc _ F => by rw [OpenClaim.pre_eq_preRow]; exact lifted os started H enc F)

theorem plain (f : FuncId) (fn : Func) (hf : Tryz.pinned.checked.prog.funcNamed "wakeman/wakemanlaw07.ExprTexts" = some f) (hfn : Tryz.pinned.checked.prog.funcs[f]? = some fn) :
    true = Tryz.pinned.checked.prog.looks [] ∧ ∀ (j : Nat) t, fn.params[j]? = some t → Tryz.pinned.checked.prog.wantsStandIn t = false := by
  obtain rfl : f = 9 := Option.some.inj ((show Tryz.prog.funcNamed "wakeman/wakemanlaw07.ExprTexts" = some 9 by kernel_rfl).symm.trans hf) |>.symm
  obtain rfl : fn = Tryz.f9 := (Option.some.inj (Tryz.func9.symm.trans hfn)).symm
  refine ⟨by kernel_rfl, fun j t ht => ?_⟩
  rw [Tryz.params9] at ht
  have hm : t ∈ [42] := by simpa using Array.mem_of_getElem? ht
  have hall : ([42].all fun u => !Tryz.prog.wantsStandIn u) = true := by kernel_rfl
  exact (show Tryz.prog.wantsStandIn t = false by simpa using List.all_eq_true.1 hall t hm)

theorem card : Rows.ExprTextsCardSaid :=
  Claim7.holds_tied_plain_at .later [] _ _ _ _ said (fun _ h => by cases h) (by kernel_rfl) (fun _ h => by cases h) exprTexts_row_tie rfl ⟨rfl, rfl⟩ (by kernel_rfl) rfl plain (by kernel_rfl)
#print axioms card
end Go.Proofs.YtjnlgaeedcklaaaGreatDoor.exprTexts
