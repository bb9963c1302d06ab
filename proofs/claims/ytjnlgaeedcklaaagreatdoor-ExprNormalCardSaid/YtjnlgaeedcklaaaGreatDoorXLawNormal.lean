/-
  ExprNormal: the walk, the row, the card.
-/
import Derived.Test.YtjnlgaeedcklaaaGreatDoorXRow
import Derived.Test.YtjnlgaeedcklaaaGreatDoorXWorks
import Derived.ChangeMaps5
set_option linter.unusedVariables false
set_option linter.unusedSimpArgs false
namespace Go.Proofs.YtjnlgaeedcklaaaGreatDoor.exprNormal
open Go.ChangeShapes Go.WideShapes Go.ChangeAt Go.RowKit

set_option maxRecDepth 100000 in
set_option maxHeartbeats 4000000 in
theorem walk (a0 : ByteArray) (w0 : a0.size ≤ maxLen) (w : World) (hX : TabX w) :
    Calls Tryz.prog 5 #[.string a0] w fun e w' => e = .returned (.bool true) ∧ Below w.heap.size w w' := by
  have HX := Lib.hid hX; clear hX
  have HW := Lib.hid law_works
  have hw0 : a0.size ≤ 9223372036854775807 := w0
  clear w0
  by_cases hlen : 500 < a0.size
  · have d1 : decide ((500 : Int) < (a0.size : Int)) = true := decide_eq_true (by omega)
    have d2 : decide (500 < a0.size) = true := decide_eq_true hlen
    go_enter Tryz.func5, Tryz.ntmps5
    go_wp2_with (go_at_call 12; (with_reducible refine (HW.out _ HX.out).mono ?_); rintro e w6 ⟨rfl, hb6⟩)
    go_ret
    exact ⟨rfl, hb6⟩
  have d1 : decide ((500 : Int) < (a0.size : Int)) = false := decide_eq_false (by omega)
  have d2 : decide (500 < a0.size) = false := decide_eq_false hlen
  have hs5 : a0.size ≤ 100000 := by omega
  have hP := fun W h => expr_Parse a0 hs5 W h
  have hN := fun W h => expr_Normal a0 hs5 W h
  rcases Xs.parse_factsX kinds_ok mac_ok a0.data.toList with ⟨h0, h1, hc⟩ | ⟨hz, hp, he⟩
  · obtain ⟨x, hx⟩ : ∃ x, (Xs.parse KX a0.data.toList).1 = x := ⟨_, rfl⟩
    have hr : Xs.parse KX a0.data.toList = (x, 0, 0) := Prod.ext hx (Prod.ext h1 h0)
    rw [hx] at hc
    rw [hr] at hP
    rw [normX_ok hr hc] at hN
    obtain ⟨T, hT⟩ : ∃ T, strOf (Xs.joinS (Xs.texts KX x)) = T := ⟨_, rfl⟩
    have hTl : T.data.toList = Xs.joinS (Xs.texts KX x) := by rw [← hT]; rfl
    have hTs : T.size ≤ 100000 := by
      have h := texts_join_len x
      rw [← hTl, Array.length_toList] at h
      exact Nat.le_trans h (by decide)
    have hr2 : Xs.parse KX T.data.toList = (x, 0, 0) := by rw [hTl]; exact Xs.back kinds_ok hc
    have hP2 := fun W h => expr_Parse T hTs W h
    have hN2 := fun W h => expr_Normal T hTs W h
    rw [hr2] at hP2
    rw [normX_ok hr2 hc] at hN2
    have HP : Hid (∀ W, TabX W → Calls Tryz.prog 13 #[.string a0] W fun e w' => e = .returned (.tuple #[exV x.second x.minute x.hour x.day x.month x.week x.anyDay x.anyWeek, .int .i64 0, .int .i64 0]) ∧ Below W.heap.size W w') := Lib.hid hP
    have HP2 : Hid (∀ W, TabX W → Calls Tryz.prog 13 #[.string T] W fun e w' => e = .returned (.tuple #[exV x.second x.minute x.hour x.day x.month x.week x.anyDay x.anyWeek, .int .i64 0, .int .i64 0]) ∧ Below W.heap.size W w') := Lib.hid hP2
    have HN : Hid (∀ W, TabX W → Calls Tryz.prog 15 #[.string a0] W fun e w' => e = .returned (.tuple #[.string T, .int .i64 0, .int .i64 0]) ∧ Below W.heap.size W w') := Lib.hid fun W h => (hN W h).mono fun e w' q => ⟨q.1.trans (by rw [← hT]; rfl), q.2⟩
    have HN2 : Hid (∀ W, TabX W → Calls Tryz.prog 15 #[.string T] W fun e w' => e = .returned (.tuple #[.string T, .int .i64 0, .int .i64 0]) ∧ Below W.heap.size W w') := Lib.hid fun W h => (hN2 W h).mono fun e w' q => ⟨q.1.trans (by rw [← hT]; rfl), q.2⟩
    have hCk := fun W h => expr_Check x W (small_of_check hc) h
    rw [chk_ok hc] at hCk
    have HCk := Lib.hid hCk
    clear hP hN hP2 hN2 hCk h0 h1 hc hx hr hr2 hT hTl hTs hs5 hlen
    go_enter Tryz.func5, Tryz.ntmps5
    go_wp2_with (first
      | (go_at_call 13; (with_reducible refine (HP.out _ HX.out).mono ?_); clear HP; rintro e w1 ⟨rfl, hb1⟩; have X1 := Lib.hid (HX.out.grow hb1); have B1 := Lib.hid hb1; have K1 := Lib.hid (Blk.new w1 25 (exC x.second x.minute x.hour x.day x.month x.week x.anyDay x.anyWeek)); clear hb1)
      | (go_at_call 15; (with_reducible refine (HN.out _ (X1.out.alloc _)).mono ?_); clear HN; rintro e w2 ⟨rfl, hb2⟩; have X2 := Lib.hid ((X1.out.alloc _).grow hb2); have K2 := Lib.hid (K1.out.below hb2 K1.out.lt); obtain ⟨kc2, kf2⟩ := K2.out.facts; have B2 := Lib.hid ((B1.out.alloc B1.out.size _).trans (hb2.mono (Nat.le_trans B1.out.size (by simp)))); clear hb2)
      | (go_at_call 13; (with_reducible refine (HP2.out _ X2.out).mono ?_); clear HP2 kc2 kf2; rintro e w3 ⟨rfl, hb3⟩; have X3 := Lib.hid (X2.out.grow hb3); have K3 := Lib.hid (K2.out.below hb3 K2.out.lt); have J3 := Lib.hid (Blk.new w3 25 (exC x.second x.minute x.hour x.day x.month x.week x.anyDay x.anyWeek)); have B3 := Lib.hid (B2.out.trans (hb3.mono B2.out.size)); clear hb3)
      | (go_at_call 15; (with_reducible refine (HN2.out _ (X3.out.alloc _)).mono ?_); clear HN2; rintro e w4 ⟨rfl, hb4⟩; have X4 := Lib.hid ((X3.out.alloc _).grow hb4); have K4 := Lib.hid ((K3.out.alloc (.cells (exC x.second x.minute x.hour x.day x.month x.week x.anyDay x.anyWeek) 25)).below hb4 (K3.out.alloc (.cells (exC x.second x.minute x.hour x.day x.month x.week x.anyDay x.anyWeek) 25)).lt); have J4 := Lib.hid (J3.out.below hb4 J3.out.lt); obtain ⟨kc4, kf4⟩ := K4.out.facts; have B4 := Lib.hid ((B3.out.alloc B3.out.size _).trans (hb4.mono (Nat.le_trans B3.out.size (by simp)))); clear hb4)
      | (go_at_call 23; (with_reducible refine (HCk.out _ X4.out.tabs).mono ?_); clear HCk kc4 kf4; rintro e w5 ⟨rfl, hb5⟩; have X5 := Lib.hid (X4.out.grow hb5); obtain ⟨kc5, kf5⟩ := (K4.out.below hb5 K4.out.lt).facts; obtain ⟨jc5, jf5⟩ := (J4.out.below hb5 J4.out.lt).facts; have B5 := Lib.hid (B4.out.trans (hb5.mono B4.out.size)); clear hb5)
      | (go_at_call 12; (with_reducible refine (HW.out _ X5.out).mono ?_); rintro e w6 ⟨rfl, hb6⟩))
    go_ret
    exact ⟨rfl, B5.out.trans (hb6.mono B5.out.size)⟩
  · obtain ⟨p, hp'⟩ : ∃ p, (Xs.parse KX a0.data.toList).2.1 = p := ⟨_, rfl⟩
    obtain ⟨er, hr'⟩ : ∃ er, (Xs.parse KX a0.data.toList).2.2 = er := ⟨_, rfl⟩
    have hr : Xs.parse KX a0.data.toList = (Xs.Ex.zero, p, er) := Prod.ext hz (Prod.ext hp' hr')
    rw [hr'] at he
    rw [hp'] at hp
    have hp5 : p ≤ a0.size := by rw [Array.length_toList] at hp; exact hp
    rw [hr] at hP
    rw [normX_bad hr (by omega)] at hN
    have HP : Hid (∀ W, TabX W → Calls Tryz.prog 13 #[.string a0] W fun e w' => e = .returned (.tuple #[exV 0 0 0 0 0 0 false false, .int .i64 p, .int .i64 er]) ∧ Below W.heap.size W w') := Lib.hid hP
    have HN : Hid (∀ W, TabX W → Calls Tryz.prog 15 #[.string a0] W fun e w' => e = .returned (.tuple #[.string ⟨#[]⟩, .int .i64 p, .int .i64 er]) ∧ Below W.heap.size W w') := Lib.hid hN
    have l0 : decide ((0 : Int) ≤ (p : Int)) = true := decide_eq_true (by omega)
    have l1 : decide ((p : Int) ≤ (a0.size : Int)) = true := decide_eq_true (by omega)
    have l2 : decide (p ≤ a0.size) = true := decide_eq_true hp5
    have pp : ((p : Int) != (p : Int)) = false := by rw [bne, beq_self_eq_true]; rfl
    clear hP hN hz hp hp' hr' hr hs5 hlen hp5
    rcases he with rfl | rfl
    · go_enter Tryz.func5, Tryz.ntmps5
      go_wp2_with (first
        | (go_at_call 13; (with_reducible refine (HP.out _ HX.out).mono ?_); clear HP; rintro e w1 ⟨rfl, hb1⟩; have X1 := Lib.hid (HX.out.grow hb1); have B1 := Lib.hid hb1; have K1 := Lib.hid (Blk.new w1 25 (exC 0 0 0 0 0 0 false false)); clear hb1)
        | (go_at_call 15; (with_reducible refine (HN.out _ (X1.out.alloc _)).mono ?_); clear HN; rintro e w2 ⟨rfl, hb2⟩; have X2 := Lib.hid ((X1.out.alloc _).grow hb2); have K2 := Lib.hid (K1.out.below hb2 K1.out.lt); obtain ⟨kc2, kf2⟩ := K2.out.facts; have B2 := Lib.hid ((B1.out.alloc B1.out.size _).trans (hb2.mono (Nat.le_trans B1.out.size (by simp)))); clear hb2)
        | (go_at_call 12; (with_reducible refine (HW.out _ X2.out).mono ?_); rintro e w6 ⟨rfl, hb6⟩))
      go_ret
      exact ⟨rfl, B2.out.trans (hb6.mono B2.out.size)⟩
    · go_enter Tryz.func5, Tryz.ntmps5
      go_wp2_with (first
        | (go_at_call 13; (with_reducible refine (HP.out _ HX.out).mono ?_); clear HP; rintro e w1 ⟨rfl, hb1⟩; have X1 := Lib.hid (HX.out.grow hb1); have B1 := Lib.hid hb1; have K1 := Lib.hid (Blk.new w1 25 (exC 0 0 0 0 0 0 false false)); clear hb1)
        | (go_at_call 15; (with_reducible refine (HN.out _ (X1.out.alloc _)).mono ?_); clear HN; rintro e w2 ⟨rfl, hb2⟩; have X2 := Lib.hid ((X1.out.alloc _).grow hb2); have K2 := Lib.hid (K1.out.below hb2 K1.out.lt); obtain ⟨kc2, kf2⟩ := K2.out.facts; have B2 := Lib.hid ((B1.out.alloc B1.out.size _).trans (hb2.mono (Nat.le_trans B1.out.size (by simp)))); clear hb2)
        | (go_at_call 12; (with_reducible refine (HW.out _ X2.out).mono ?_); rintro e w6 ⟨rfl, hb6⟩))
      go_ret
      exact ⟨rfl, B2.out.trans (hb6.mono B2.out.size)⟩

set_option maxRecDepth 100000 in
theorem contract (H : Type) (enc : TypeId × Value → H) (W : World) (base : Nat) (args : Array Value) (ds gs : List (DataW H)) (before : List MemPlace)
    (hval : ∀ (j : Nat) t v, Tryz.f5.params[j]? = some t → args[j]? = some v → Value.okWide Tryz.prog W .any base t v)
    (hW : DataW.Whole enc Tryz.prog Tryz.f5.params.toList Rows.exprNormalSpec.vars false W args.toList ds gs before) (hL : laidMetH Tryz.prog Rows.exprNormalRow.laid W) (hS : W.ShapedOpen Tryz.prog) :
    Calls Tryz.prog 5 args W fun e W' => ∃ v, e = .returned v ∧ Rows.exprNormalSpec.post enc Tryz.prog Tryz.f5 false true false false W args v W' := by
  have hT : TabX W := XRow.tabs_of hL hS
  have hW' := hW
  obtain ⟨p, q, hA0, hV, rfl, hfz, hnd⟩ := hW
  have hA : DataW.TrodAll enc Tryz.prog W 0 (fun _ => true) true Tryz.f5.params.toList args.toList ds p := hA0
  rw [Tryz.params5] at hA hval
  obtain ⟨v0, vs0, d0, ds0, p0, q0, hargs, rfl, rfl, h0, r0⟩ := trodAll_cons hA
  obtain ⟨rfl, rfl, rfl⟩ := trodAll_nil r0
  obtain rfl : args = #[v0] := by cases args; simp_all
  obtain ⟨rfl, rfl⟩ := trodVars_none hV
  obtain ⟨a0, rfl, rfl, rfl, w0⟩ := Go.ChangeMaps.open_string Tryz.underlying9 (hval 0 9 v0 rfl rfl) h0
  clear hA0
  simp only [List.append_nil] at hW'
  refine (walk a0 w0 W hT ).mono fun e W' ⟨he, hb⟩ => ?_
  subst he
  exact ⟨_, rfl, _, _, _, [], [], [], hW', trodAll_cons_mk (shut_bool Tryz.underlying4 _) trodAll_mk0, (trodAll_cons_mk (Go.ChangeMaps.shut_string Tryz.underlying9 w0) trodAll_mk0), rfl, hb.frame _, fun h => by cases h⟩

set_option maxRecDepth 100000 in
theorem lifted (os : Os) (started : os.Started) (H : Type) (enc : TypeId × Value → H) (F : Stop.Interp) :
    ReturnsInHanded {} Tryz.checked os 5 .any ((OpenSpec.ofChange Rows.exprNormalSpec).preRow enc Tryz.prog Tryz.f5 Rows.exprNormalRow.domain false Rows.exprNormalRow.laid) (((OpenSpec.ofChange Rows.exprNormalSpec).at F).post enc Tryz.prog Tryz.f5 false true false false) := by
  refine returnsInHanded_of_row (C := Tryz.checked) (s := OpenSpec.ofChange Rows.exprNormalSpec) XRow.own started (by kernel_rfl) Tryz.func5
    (ChangeSpec.witness_shaped (enc := enc) (C := Tryz.checked) (os := os) (X := fun w _ => laidMetH Tryz.prog XRow.laidL w) false (World.laidAll Tryz.prog os XRow.laidL) #[.string ByteArray.empty] 8 (World.laidAll_os _ _ _)
      (XRow.wit_shaped os _) (by kernel_rfl) (by kernel_rfl) (by kernel_rfl) (XRow.wit_laid os _)) ?_
  intro W base args ds gs before hval hW _ _ _ hL hS _
  exact contract H enc W base args ds gs before hval hW hL hS

theorem said : Rows.ExprNormalSaid :=
  OpenClaim.holds_of_cond 5 Tryz.f5 rfl rfl rfl rfl rfl rfl rfl ⟨rfl, rfl, rfl, rfl, rfl⟩ rfl rfl rfl rfl rfl (by kernel_rfl) Tryz.func5 (by kernel_rfl)
    (of_decide_eq_true (by kernel_rfl)) (by unfold Func.isWrapper; first | (rw [if_pos (by decide +kernel)]; kernel_rfl) | (rw [if_neg (by decide +kernel)]; exact ⟨rfl, rfl⟩))
    (fun os started H enc _ F => by rw [OpenClaim.pre_eq_preRow]; exact lifted os started H enc F)

theorem plain (f : FuncId) (fn : Func) (hf : Tryz.pinned.checked.prog.funcNamed "wakeman/wakemanlaw07.ExprNormal" = some f) (hfn : Tryz.pinned.checked.prog.funcs[f]? = some fn) :
    true = Tryz.pinned.checked.prog.looks [] ∧ ∀ (j : Nat) t, fn.params[j]? = some t → Tryz.pinned.checked.prog.wantsStandIn t = false := by
  obtain rfl : f = 5 := Option.some.inj ((show Tryz.prog.funcNamed "wakeman/wakemanlaw07.ExprNormal" = some 5 by kernel_rfl).symm.trans hf) |>.symm
  obtain rfl : fn = Tryz.f5 := (Option.some.inj (Tryz.func5.symm.trans hfn)).symm
  refine ⟨by kernel_rfl, fun j t ht => ?_⟩
  rw [Tryz.params5] at ht
  have hm : t ∈ [9] := by simpa using Array.mem_of_getElem? ht
  have hall : ([9].all fun u => !Tryz.prog.wantsStandIn u) = true := by kernel_rfl
  exact (show Tryz.prog.wantsStandIn t = false by simpa using List.all_eq_true.1 hall t hm)

theorem card : Rows.ExprNormalCardSaid :=
  Claim7.holds_tied_plain_at .later [] _ _ _ _ said (fun _ h => by cases h) (by kernel_rfl) (fun _ h => by cases h) exprNormal_row_tie rfl ⟨rfl, rfl⟩ (by kernel_rfl) rfl plain (by kernel_rfl)
#print axioms card
end Go.Proofs.YtjnlgaeedcklaaaGreatDoor.exprNormal
