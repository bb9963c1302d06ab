/-
  ExprReads: the walk, the row, the card.
-/
import Derived.Test.YtjnlgaeedcklaaaGreatDoorXRow
import Derived.Test.YtjnlgaeedcklaaaGreatDoorXWorks
import Derived.Test.YtjnlgaeedcklaaaGreatDoorYRefF
import Derived.ChangeMaps5
set_option linter.unusedVariables false
set_option linter.unusedSimpArgs false
namespace Go.Proofs.YtjnlgaeedcklaaaGreatDoor.exprReads
open Go.ChangeShapes Go.WideShapes Go.ChangeAt Go.RowKit

set_option maxRecDepth 100000 in
set_option maxHeartbeats 8000000 in
theorem walk (a0 : ByteArray) (w0 : a0.size ≤ maxLen) (w : World) (hX : TabX w) :
    Calls Tryz.prog 3 #[.string a0] w fun e w' => e = .returned (.bool true) ∧ Below w.heap.size w w' := by
  have HX := Lib.hid hX; clear hX
  have HW := Lib.hid law_works
  have hw0 : a0.size ≤ 9223372036854775807 := w0
  clear w0
  by_cases hlen : 500 < a0.size
  · have d1 : decide ((500 : Int) < (a0.size : Int)) = true := decide_eq_true (by omega)
    have d2 : decide (500 < a0.size) = true := decide_eq_true hlen
    go_enter Tryz.func3, Tryz.ntmps3
    go_wp2_with (go_at_call 12; (with_reducible refine (HW.out _ HX.out).mono ?_); rintro e w6 ⟨rfl, hb6⟩)
    go_ret
    exact ⟨rfl, hb6⟩
  have d1 : decide ((500 : Int) < (a0.size : Int)) = false := decide_eq_false (by omega)
  have d2 : decide (500 < a0.size) = false := decide_eq_false hlen
  have hs5 : a0.size ≤ 100000 := by omega
  have hP := fun W h => expr_Parse a0 hs5 W h
  have hPR := fun W => ref7_Parse a0 hs5 W
  have hN := fun W h => expr_Normal a0 hs5 W h
  have hNR := fun W => ref7_Normal a0 hs5 W
  have hM := fun W h => expr_Macro a0 hs5 W h
  have hMR := fun W => ref7_Macro a0 W
  obtain ⟨r, hr⟩ : ∃ r, Xs.parse KX a0.data.toList = r := ⟨_, rfl⟩
  obtain ⟨n, hn⟩ : ∃ n, Xs.normalX KX a0.data.toList = n := ⟨_, rfl⟩
  obtain ⟨m, hm⟩ : ∃ m, Xs.mac KX a0.data.toList = m := ⟨_, rfl⟩
  rw [hr] at hP hPR
  rw [hn] at hN hNR
  rw [hm] at hM hMR
  obtain ⟨x, p, er⟩ := r
  obtain ⟨t, i, g⟩ := n
  obtain ⟨y, is⟩ := m
  obtain ⟨T, hT⟩ : ∃ T, strOf t = T := ⟨_, rfl⟩
  have HP : Hid (∀ W, TabX W → Calls Tryz.prog 13 #[.string a0] W fun e w' => e = .returned (.tuple #[exV x.second x.minute x.hour x.day x.month x.week x.anyDay x.anyWeek, .int .i64 p, .int .i64 er]) ∧ Below W.heap.size W w') := Lib.hid hP
  have HPR : Hid (∀ W, Calls Tryz.prog 14 #[.string a0] W fun e w' => e = .returned (.tuple #[exV x.second x.minute x.hour x.day x.month x.week x.anyDay x.anyWeek, .int .i64 p, .int .i64 er]) ∧ Below W.heap.size W w') := Lib.hid hPR
  have HN : Hid (∀ W, TabX W → Calls Tryz.prog 15 #[.string a0] W fun e w' => e = .returned (.tuple #[.string T, .int .i64 i, .int .i64 g]) ∧ Below W.heap.size W w') := Lib.hid fun W h => (hN W h).mono fun e w' q => ⟨q.1.trans (by rw [← hT]; rfl), q.2⟩
  have HNR : Hid (∀ W, Calls Tryz.prog 16 #[.string a0] W fun e w' => e = .returned (.tuple #[.string T, .int .i64 i, .int .i64 g]) ∧ Below W.heap.size W w') := Lib.hid fun W => (hNR W).mono fun e w' q => ⟨q.1.trans (by rw [← hT]; rfl), q.2⟩
  have HM : Hid (∀ W, TabX W → Calls Tryz.prog 17 #[.string a0] W fun e w' => e = .returned (.tuple #[exV y.second y.minute y.hour y.day y.month y.week y.anyDay y.anyWeek, .bool is]) ∧ Below W.heap.size W w') := Lib.hid hM
  have HMR : Hid (∀ W, Calls Tryz.prog 18 #[.string a0] W fun e w' => e = .returned (.tuple #[exV y.second y.minute y.hour y.day y.month y.week y.anyDay y.anyWeek, .bool is]) ∧ Below W.heap.size W w') := Lib.hid hMR
  clear hP hPR hN hNR hM hMR hr hn hm hT hs5 hlen
  go_enter Tryz.func3, Tryz.ntmps3
  go_wp2_with (first
    | (go_at_call 13; (with_reducible refine (HP.out _ HX.out).mono ?_); clear HP; rintro e w1 ⟨rfl, hb1⟩; have X1 := Lib.hid (HX.out.grow hb1); have B1 := Lib.hid hb1; have K1 := Lib.hid (Blk.new w1 25 (exC x.second x.minute x.hour x.day x.month x.week x.anyDay x.anyWeek)); clear hb1)
    | (go_at_call 14; (with_reducible refine (HPR.out _).mono ?_); clear HPR; rintro e w2 ⟨rfl, hb2⟩; have X2 := Lib.hid ((X1.out.alloc _).grow hb2); have K2 := Lib.hid (K1.out.below hb2 K1.out.lt); have J2 := Lib.hid (Blk.new w2 25 (exC x.second x.minute x.hour x.day x.month x.week x.anyDay x.anyWeek)); have B2 := Lib.hid ((B1.out.alloc B1.out.size _).trans (hb2.mono (Nat.le_trans B1.out.size (by simp)))); clear hb2)
    | (go_at_call 15; (with_reducible refine (HN.out _ (X2.out.alloc _)).mono ?_); clear HN; rintro e w3 ⟨rfl, hb3⟩; have X3 := Lib.hid ((X2.out.alloc _).grow hb3); have K3 := Lib.hid ((K2.out.alloc (.cells (exC x.second x.minute x.hour x.day x.month x.week x.anyDay x.anyWeek) 25)).below hb3 (K2.out.alloc (.cells (exC x.second x.minute x.hour x.day x.month x.week x.anyDay x.anyWeek) 25)).lt); have J3 := Lib.hid (J2.out.below hb3 J2.out.lt); have B3 := Lib.hid ((B2.out.alloc B2.out.size _).trans (hb3.mono (Nat.le_trans B2.out.size (by simp)))); clear hb3)
    | (go_at_call 16; (with_reducible refine (HNR.out _).mono ?_); clear HNR; rintro e w4 ⟨rfl, hb4⟩; have X4 := Lib.hid (X3.out.grow hb4); have K4 := Lib.hid (K3.out.below hb4 K3.out.lt); have J4 := Lib.hid (J3.out.below hb4 J3.out.lt); have B4 := Lib.hid (B3.out.trans (hb4.mono B3.out.size)); clear hb4)
    | (go_at_call 17; (with_reducible refine (HM.out _ X4.out).mono ?_); clear HM; rintro e w5 ⟨rfl, hb5⟩; have X5 := Lib.hid (X4.out.grow hb5); have K5 := Lib.hid (K4.out.below hb5 K4.out.lt); have J5 := Lib.hid (J4.out.below hb5 J4.out.lt); have L5 := Lib.hid (Blk.new w5 25 (exC y.second y.minute y.hour y.day y.month y.week y.anyDay y.anyWeek)); have B5 := Lib.hid (B4.out.trans (hb5.mono B4.out.size)); clear hb5)
    | (go_at_call 18; (with_reducible refine (HMR.out _).mono ?_); clear HMR; rintro e w6 ⟨rfl, hb6⟩; have X6 := Lib.hid ((X5.out.alloc _).grow hb6); have K6 := Lib.hid ((K5.out.alloc (.cells (exC y.second y.minute y.hour y.day y.month y.week y.anyDay y.anyWeek) 25)).below hb6 (K5.out.alloc (.cells (exC y.second y.minute y.hour y.day y.month y.week y.anyDay y.anyWeek) 25)).lt); have J6 := Lib.hid ((J5.out.alloc (.cells (exC y.second y.minute y.hour y.day y.month y.week y.anyDay y.anyWeek) 25)).below hb6 (J5.out.alloc (.cells (exC y.second y.minute y.hour y.day y.month y.week y.anyDay y.anyWeek) 25)).lt); have L6 := Lib.hid (L5.out.below hb6 L5.out.lt); obtain ⟨kc6, kf6⟩ := K6.out.facts; obtain ⟨jc6, jf6⟩ := J6.out.facts; obtain ⟨lc6, lf6⟩ := L6.out.facts; have sK6 := K6.out.lt; have sJ6 := J6.out.lt; have sL6 := L6.out.lt; have B6 := Lib.hid ((B5.out.alloc B5.out.size _).trans (hb6.mono (Nat.le_trans B5.out.size (by simp)))); clear hb6)
    | (go_at_call 12; (with_reducible refine (HW.out _ (X6.out.alloc _)).mono ?_); rintro e w7 ⟨rfl, hb7⟩))
  go_ret
  exact ⟨rfl, (B6.out.alloc B6.out.size _).trans (hb7.mono (Nat.le_trans B6.out.size (by simp)))⟩

set_option maxRecDepth 100000 in
theorem contract (H : Type) (enc : TypeId × Value → H) (W : World) (base : Nat) (args : Array Value) (ds gs : List (DataW H)) (before : List MemPlace)
    (hval : ∀ (j : Nat) t v, Tryz.f3.params[j]? = some t → args[j]? = some v → Value.okWide Tryz.prog W .any base t v)
    (hW : DataW.Whole enc Tryz.prog Tryz.f3.params.toList Rows.exprReadsSpec.vars false W args.toList ds gs before) (hL : laidMetH Tryz.prog Rows.exprReadsRow.laid W) (hS : W.ShapedOpen Tryz.prog) :
    Calls Tryz.prog 3 args W fun e W' => ∃ v, e = .returned v ∧ Rows.exprReadsSpec.post enc Tryz.prog Tryz.f3 false true false false W args v W' := by
  have hT : TabX W := XRow.tabs_of hL hS
  have hW' := hW
  obtain ⟨p, q, hA0, hV, rfl, hfz, hnd⟩ := hW
  have hA : DataW.TrodAll enc Tryz.prog W 0 (fun _ => true) true Tryz.f3.params.toList args.toList ds p := hA0
  rw [Tryz.params3] at hA hval
  obtain ⟨v0, vs0, d0, ds0, p0, q0, hargs, rfl, rfl, h0, r0⟩ := trodAll_cons hA
  obtain ⟨rfl, rfl, rfl⟩ := trodAll_nil r0
  obtain rfl : args = #[v0] := by cases args; simp_all
  obtain ⟨rfl, rfl⟩ := trodVars_none hV
  obtain ⟨a0, rfl, rfl, rfl, w0⟩ := Go.ChangeMaps.open_string Tryz.underlying9 (hval 0 9 v0 rfl rfl) h0
  clear hA0
  simp only [List.append_nil] at hW'
  refine (walk a0 w0 W hT ).mono fun e W' ⟨he, hb⟩ => ?_
  subst he
  exact ⟨_, rfl, _, _, _, [], [], [], hW', trodAll_cons_mk (shut_bool Tryz.underlying4 _) trodAll_mk0, (trodAll_cons_mk (Go.ChangeMaps.shut_string Tryz.underlying9 w0) trodAll_mk0), rfl, hb.frame _, fun h => by cases h⟩

set_option maxRecDepth 100000 in
theorem lifted (os : Os) (started : os.Started) (H : Type) (enc : TypeId × Value → H) (F : Stop.Interp) :
    ReturnsInHanded {} Tryz.checked os 3 .any ((OpenSpec.ofChange Rows.exprReadsSpec).preRow enc Tryz.prog Tryz.f3 Rows.exprReadsRow.domain false Rows.exprReadsRow.laid) (((OpenSpec.ofChange Rows.exprReadsSpec).at F).post enc Tryz.prog Tryz.f3 false true false false) := by
  refine returnsInHanded_of_row (C := Tryz.checked) (s := OpenSpec.ofChange Rows.exprReadsSpec) XRow.own started (by kernel_rfl) Tryz.func3
    (ChangeSpec.witness_shaped (enc := enc) (C := Tryz.checked) (os := os) (X := fun w _ => laidMetH Tryz.prog XRow.laidL w) false (World.laidAll Tryz.prog os XRow.laidL) #[.string ByteArray.empty] 8 (World.laidAll_os _ _ _)
      (XRow.wit_shaped os _) (by kernel_rfl) (by kernel_rfl) (by kernel_rfl) (XRow.wit_laid os _)) ?_
  intro W base args ds gs before hval hW _ _ _ hL hS _
  exact contract H enc W base args ds gs before hval hW hL hS

theorem said : Rows.ExprReadsSaid :=
  OpenClaim.holds_of_cond 3 Tryz.f3 rfl rfl rfl rfl rfl rfl rfl ⟨rfl, rfl, rfl, rfl, rfl⟩ rfl rfl rfl rfl rfl (by kernel_rfl) Tryz.func3 (by kernel_rfl)
    (of_decide_eq_true (by kernel_rfl)) (by unfold Func.isWrapper; first | (rw [if_pos (by decide +kernel)]; kernel_rfl) | (rw [if_neg (by decide +kernel)]; exact ⟨rfl, rfl⟩))
    (fun os started H enc _ F => by rw [OpenClaim.pre_eq_preRow]; exact lifted os started H enc F)

theorem plain (f : FuncId) (fn : Func) (hf : Tryz.pinned.checked.prog.funcNamed "wakeman/wakemanlaw07.ExprReads" = some f) (hfn : Tryz.pinned.checked.prog.funcs[f]? = some fn) :
    true = Tryz.pinned.checked.prog.looks [] ∧ ∀ (j : Nat) t, fn.params[j]? = some t → Tryz.pinned.checked.prog.wantsStandIn t = false := by
  obtain rfl : f = 3 := Option.some.inj ((show Tryz.prog.funcNamed "wakeman/wakemanlaw07.ExprReads" = some 3 by kernel_rfl).symm.trans hf) |>.symm
  obtain rfl : fn = Tryz.f3 := (Option.some.inj (Tryz.func3.symm.trans hfn)).symm
  refine ⟨by kernel_rfl, fun j t ht => ?_⟩
  rw [Tryz.params3] at ht
  have hm : t ∈ [9] := by simpa using Array.mem_of_getElem? ht
  have hall : ([9].all fun u => !Tryz.prog.wantsStandIn u) = true := by kernel_rfl
  exact (show Tryz.prog.wantsStandIn t = false by simpa using List.all_eq_true.1 hall t hm)

theorem card : Rows.ExprReadsCardSaid :=
  Claim7.holds_tied_plain_at .later [] _ _ _ _ said (fun _ h => by cases h) (by kernel_rfl) (fun _ h => by cases h) exprReads_row_tie rfl ⟨rfl, rfl⟩ (by kernel_rfl) rfl plain (by kernel_rfl)
#print axioms card
end Go.Proofs.YtjnlgaeedcklaaaGreatDoor.exprReads
