/-
  FieldNormal: the walk, the row, the card.
-/
import Derived.Test.YtfhcnndleaoobaaGreatDoorFRow
import Derived.Test.YtfhcnndleaoobaaGreatDoorFSixPlain
import Derived.ChangeMaps5
set_option linter.unusedVariables false
set_option linter.unusedSimpArgs false
namespace Go.Proofs.YtfhcnndleaoobaaGreatDoor.fieldNormal
open Go.ChangeShapes Go.WideShapes Go.ChangeAt Go.RowKit

set_option maxRecDepth 100000 in
set_option maxHeartbeats 4000000 in
theorem walk (a0 : Int) (s : ByteArray) (w0 : (Lit.int .u8 a0).wf = true) (w1 : s.size ≤ maxLen) (w : World) (hT : Tabs w) :
    Calls Tryz.prog 7 #[.int .u8 a0, .string s] w fun e w' => e = .returned (.bool true) ∧ Below w.heap.size w w' := by
  obtain ⟨n, rfl, hn⟩ := u8_nat w0
  obtain ⟨lo, hi, l, week, hk, hsix⟩ := six_ok n hn
  obtain ⟨f1, f2, f3, f4, f5, f6, f7, f8⟩ := hk.facts
  have hw1 : s.size ≤ 9223372036854775807 := w1
  have H6 := Lib.hid hsix
  have HT := Lib.hid hT
  by_cases hlen : 300 < s.size
  · clear hsix hT hk f1 f2 f3 f4 f5 f6 f7 f8 w0 w1
    generalize Fs.full (kind lo hi l week) = fu at *
    generalize hhi : hi = hi' at *
    go_enter Tryz.func7, Tryz.ntmps7
    go_wp2_with (first
      | (go_at_call 32; (with_reducible refine (H6.out _ HT.out).mono ?_); rintro e x1 ⟨A, c, rfl, hb1, hk1⟩
         have B1 := Lib.hid hb1; have K1 := Lib.hid hk1; have T1 := Lib.hid (HT.out.grow hb1); clear hb1 hk1)
      | (go_at_call 14; (with_reducible refine (works_true _ (T1.out.alloc _)).mono ?_); rintro e x2 ⟨rfl, hb2⟩
         have B2 := Lib.hid ((B1.out.alloc B1.out.size _).trans (hb2.mono (by have := B1.out.size; simp; omega))); clear hb2))
    go_ret
    exact ⟨rfl, B2.out⟩
  have hs3 : s.size ≤ 100000 := by omega
  rcases norm_plain hk s with ⟨S, T, t1, h1, h2, h3, q1, q2, q3, q4⟩ | ⟨a, e, h1, q1, q2⟩
  · have hst : (s.toList == [42]) = (s.data.toList == [42]) := by rw [ByteArray.toList_eq]
    have hz : ((S : Int) != 0) = true := by rw [bne_iff_ne]; omega
    have hd := andNot_sub S _ h3 f8 h2
    generalize hbt : (s.data.toList == [42]) = b at *
    have G1 : Hid (∀ A c W, KindAt W (n % 6) lo hi A c l week → Tabs W → Calls Tryz.prog 15 #[.agg #[.int .i64 lo, .int .i64 hi, .slice A l.length c, .bool week], .string s] W fun e w' => e = .returned (.tuple #[.int .u64 S, .bool b, .int .i64 0, .int .i64 0]) ∧ Below W.heap.size W w') :=
      Lib.hid fun A c W h hT => by have := kd_Parse h hT s hs3; rw [q1] at this; exact this
    have G2 : Hid (∀ A c W, KindAt W (n % 6) lo hi A c l week → Tabs W → Calls Tryz.prog 19 #[.agg #[.int .i64 lo, .int .i64 hi, .slice A l.length c, .bool week], .string s] W fun e w' => e = .returned (.tuple #[.string T, .int .i64 0, .int .i64 0]) ∧ Below W.heap.size W w') :=
      Lib.hid fun A c W h hT => by have := kd_Normal h hT s hs3 (by rw [q1]; exact h3); rw [q2] at this; exact this
    have G3 : Hid (∀ A c W, KindAt W (n % 6) lo hi A c l week → Tabs W → Calls Tryz.prog 15 #[.agg #[.int .i64 lo, .int .i64 hi, .slice A l.length c, .bool week], .string T] W fun e w' => e = .returned (.tuple #[.int .u64 S, .bool b, .int .i64 0, .int .i64 0]) ∧ Below W.heap.size W w') :=
      Lib.hid fun A c W h hT => by have := kd_Parse h hT T t1; rw [q3] at this; exact this
    have G4 : Hid (∀ A c W, KindAt W (n % 6) lo hi A c l week → Tabs W → Calls Tryz.prog 19 #[.agg #[.int .i64 lo, .int .i64 hi, .slice A l.length c, .bool week], .string T] W fun e w' => e = .returned (.tuple #[.string T, .int .i64 0, .int .i64 0]) ∧ Below W.heap.size W w') :=
      Lib.hid fun A c W h hT => by have := kd_Normal h hT T t1 (by rw [q3]; exact h3); rw [q4] at this; exact this
    generalize Fs.full (kind lo hi l week) = fu at *
    generalize hhi : hi = hi' at *
    clear hsix hT hk f1 f2 f3 f4 f5 f6 f7 f8 w0 w1 t1 h1 h2 h3 q1 q2 q3 q4 hbt
    go_enter Tryz.func7, Tryz.ntmps7
    go_wp2_with (first
      | (go_at_call 32; (with_reducible refine (H6.out _ HT.out).mono ?_); rintro e x1 ⟨A, c, rfl, hb1, hk1⟩
         have B1 := Lib.hid hb1; have K1 := Lib.hid hk1; have T1 := Lib.hid (HT.out.grow hb1); clear hb1 hk1)
      | (go_at_call 15; (with_reducible refine (G1.out _ _ _ (K1.out.alloc _) (T1.out.alloc _)).mono ?_); rintro e x2 ⟨rfl, hb2⟩
         obtain ⟨hc2, hf2⟩ := bcell hb2; have s2 : x1.heap.size < x2.heap.size := by have := hb2.size; simp at this; omega
         have B2 := Lib.hid ((B1.out.alloc B1.out.size _).trans (hb2.mono (by have := B1.out.size; simp; omega))); have K2 := Lib.hid ((K1.out.alloc _).grow hb2); have T2 := Lib.hid ((T1.out.alloc _).grow hb2); clear hb2)
      | (go_at_call 19; (with_reducible refine (G2.out _ _ _ K2.out T2.out).mono ?_); rintro e x3 ⟨rfl, hb2⟩
         obtain ⟨hc3, hf3⟩ := bcell hb2; have s3 : x1.heap.size < x3.heap.size := by have := hb2.size; omega
         have B3 := Lib.hid (B2.out.trans (hb2.mono B2.out.size)); have K3 := Lib.hid (K2.out.grow hb2); have T3 := Lib.hid (T2.out.grow hb2); clear hb2)
      | (go_at_call 15; (with_reducible refine (G3.out _ _ _ K3.out T3.out).mono ?_); rintro e x4 ⟨rfl, hb2⟩
         obtain ⟨hc4, hf4⟩ := bcell hb2; have s4 : x1.heap.size < x4.heap.size := by have := hb2.size; omega
         have B4 := Lib.hid (B3.out.trans (hb2.mono B3.out.size)); have K4 := Lib.hid (K3.out.grow hb2); have T4 := Lib.hid (T3.out.grow hb2); clear hb2)
      | (go_at_call 19; (with_reducible refine (G4.out _ _ _ K4.out T4.out).mono ?_); rintro e x5 ⟨rfl, hb2⟩
         obtain ⟨hc5, hf5⟩ := bcell hb2; have s5 : x1.heap.size < x5.heap.size := by have := hb2.size; omega
         have B5 := Lib.hid (B4.out.trans (hb2.mono B4.out.size)); have K5 := Lib.hid (K4.out.grow hb2); have T5 := Lib.hid (T4.out.grow hb2); clear hb2)
      | (go_at_call 14; (with_reducible refine (works_true _ T5.out).mono ?_); rintro e x6 ⟨rfl, hb2⟩
         have B6 := Lib.hid (B5.out.trans (hb2.mono B5.out.size)); clear hb2))
    all_goals (go_ret; exact ⟨rfl, B6.out⟩)
  · rcases h1 with ⟨rfl, h1⟩ | ⟨rfl, h1⟩
    · have g1 : decide ((a : Int) ≤ (s.size : Int)) = true := decide_eq_true (by omega)
      have g3 : decide ((a : Int) ≥ 0) = true := decide_eq_true (by omega)
      have g4 : decide (a ≤ s.size) = true := decide_eq_true (by omega)
      have G1 : Hid (∀ A c W, KindAt W (n % 6) lo hi A c l week → Tabs W → Calls Tryz.prog 15 #[.agg #[.int .i64 lo, .int .i64 hi, .slice A l.length c, .bool week], .string s] W fun e w' => e = .returned (.tuple #[.int .u64 0, .bool false, .int .i64 a, .int .i64 10]) ∧ Below W.heap.size W w') :=
      Lib.hid fun A c W h hT => by have := kd_Parse h hT s hs3; rw [q1] at this; exact this
      have G2 : Hid (∀ A c W, KindAt W (n % 6) lo hi A c l week → Tabs W → Calls Tryz.prog 19 #[.agg #[.int .i64 lo, .int .i64 hi, .slice A l.length c, .bool week], .string s] W fun e w' => e = .returned (.tuple #[.string { data := #[] }, .int .i64 a, .int .i64 10]) ∧ Below W.heap.size W w') :=
      Lib.hid fun A c W h hT => by have := kd_Normal h hT s hs3 (by rw [q1]; show 0 < _; decide); rw [q2] at this; exact this
      generalize Fs.full (kind lo hi l week) = fu at *
      generalize hhi : hi = hi' at *
      clear hsix hT hk f1 f2 f3 f4 f5 f6 f7 f8 w0 w1 q1 q2
      go_enter Tryz.func7, Tryz.ntmps7
      go_wp2_with (first
        | (go_at_call 32; (with_reducible refine (H6.out _ HT.out).mono ?_); rintro e x1 ⟨A, c, rfl, hb1, hk1⟩
           have B1 := Lib.hid hb1; have K1 := Lib.hid hk1; have T1 := Lib.hid (HT.out.grow hb1); clear hb1 hk1)
        | (go_at_call 15; (with_reducible refine (G1.out _ _ _ (K1.out.alloc _) (T1.out.alloc _)).mono ?_); rintro e x2 ⟨rfl, hb2⟩
           obtain ⟨hc2, hf2⟩ := bcell hb2; have s2 : x1.heap.size < x2.heap.size := by have := hb2.size; simp at this; omega
           have B2 := Lib.hid ((B1.out.alloc B1.out.size _).trans (hb2.mono (by have := B1.out.size; simp; omega))); have K2 := Lib.hid ((K1.out.alloc _).grow hb2); have T2 := Lib.hid ((T1.out.alloc _).grow hb2); clear hb2)
        | (go_at_call 19; (with_reducible refine (G2.out _ _ _ K2.out T2.out).mono ?_); rintro e x3 ⟨rfl, hb2⟩
           obtain ⟨hc3, hf3⟩ := bcell hb2; have s3 : x1.heap.size < x3.heap.size := by have := hb2.size; omega
           have B3 := Lib.hid (B2.out.trans (hb2.mono B2.out.size)); have K3 := Lib.hid (K2.out.grow hb2); have T3 := Lib.hid (T2.out.grow hb2); clear hb2)
        | (go_at_call 14; (with_reducible refine (works_true _ T3.out).mono ?_); rintro e x4 ⟨rfl, hb2⟩
           have B4 := Lib.hid (B3.out.trans (hb2.mono B3.out.size)); clear hb2))
      all_goals (go_ret; exact ⟨rfl, B4.out⟩)
    · have g1 : decide ((a : Int) ≤ (s.size : Int)) = true := decide_eq_true (by omega)
      have g2 : decide ((a : Int) < (s.size : Int)) = true := decide_eq_true (by omega)
      have g3 : decide ((a : Int) ≥ 0) = true := decide_eq_true (by omega)
      have g4 : decide (a ≤ s.size) = true := decide_eq_true (by omega)
      have g5 : decide (a < s.size) = true := decide_eq_true h1
      have G1 : Hid (∀ A c W, KindAt W (n % 6) lo hi A c l week → Tabs W → Calls Tryz.prog 15 #[.agg #[.int .i64 lo, .int .i64 hi, .slice A l.length c, .bool week], .string s] W fun e w' => e = .returned (.tuple #[.int .u64 0, .bool false, .int .i64 a, .int .i64 2]) ∧ Below W.heap.size W w') :=
      Lib.hid fun A c W h hT => by have := kd_Parse h hT s hs3; rw [q1] at this; exact this
      have G2 : Hid (∀ A c W, KindAt W (n % 6) lo hi A c l week → Tabs W → Calls Tryz.prog 19 #[.agg #[.int .i64 lo, .int .i64 hi, .slice A l.length c, .bool week], .string s] W fun e w' => e = .returned (.tuple #[.string { data := #[] }, .int .i64 a, .int .i64 2]) ∧ Below W.heap.size W w') :=
      Lib.hid fun A c W h hT => by have := kd_Normal h hT s hs3 (by rw [q1]; show 0 < _; decide); rw [q2] at this; exact this
      generalize Fs.full (kind lo hi l week) = fu at *
      generalize hhi : hi = hi' at *
      clear hsix hT hk f1 f2 f3 f4 f5 f6 f7 f8 w0 w1 q1 q2
      go_enter Tryz.func7, Tryz.ntmps7
      go_wp2_with (first
        | (go_at_call 32; (with_reducible refine (H6.out _ HT.out).mono ?_); rintro e x1 ⟨A, c, rfl, hb1, hk1⟩
           have B1 := Lib.hid hb1; have K1 := Lib.hid hk1; have T1 := Lib.hid (HT.out.grow hb1); clear hb1 hk1)
        | (go_at_call 15; (with_reducible refine (G1.out _ _ _ (K1.out.alloc _) (T1.out.alloc _)).mono ?_); rintro e x2 ⟨rfl, hb2⟩
           obtain ⟨hc2, hf2⟩ := bcell hb2; have s2 : x1.heap.size < x2.heap.size := by have := hb2.size; simp at this; omega
           have B2 := Lib.hid ((B1.out.alloc B1.out.size _).trans (hb2.mono (by have := B1.out.size; simp; omega))); have K2 := Lib.hid ((K1.out.alloc _).grow hb2); have T2 := Lib.hid ((T1.out.alloc _).grow hb2); clear hb2)
        | (go_at_call 19; (with_reducible refine (G2.out _ _ _ K2.out T2.out).mono ?_); rintro e x3 ⟨rfl, hb2⟩
           obtain ⟨hc3, hf3⟩ := bcell hb2; have s3 : x1.heap.size < x3.heap.size := by have := hb2.size; omega
           have B3 := Lib.hid (B2.out.trans (hb2.mono B2.out.size)); have K3 := Lib.hid (K2.out.grow hb2); have T3 := Lib.hid (T2.out.grow hb2); clear hb2)
        | (go_at_call 14; (with_reducible refine (works_true _ T3.out).mono ?_); rintro e x4 ⟨rfl, hb2⟩
           have B4 := Lib.hid (B3.out.trans (hb2.mono B3.out.size)); clear hb2))
      all_goals (go_ret; exact ⟨rfl, B4.out⟩)

set_option maxRecDepth 100000 in
theorem contract (H : Type) (enc : TypeId × Value → H) (W : World) (base : Nat) (args : Array Value) (ds gs : List (DataW H)) (before : List MemPlace)
    (hval : ∀ (j : Nat) t v, Tryz.f7.params[j]? = some t → args[j]? = some v → Value.okWide Tryz.prog W .any base t v)
    (hW : DataW.Whole enc Tryz.prog Tryz.f7.params.toList Rows.fieldNormalSpec.vars false W args.toList ds gs before) (hL : laidMetH Tryz.prog Rows.fieldNormalRow.laid W) (hS : W.ShapedOpen Tryz.prog) :
    Calls Tryz.prog 7 args W fun e W' => ∃ v, e = .returned v ∧ Rows.fieldNormalSpec.post enc Tryz.prog Tryz.f7 false true false false W args v W' := by
  have hT : Tabs W := FRow.tabs_of hL hS
  have hW' := hW
  obtain ⟨p, q, hA0, hV, rfl, hfz, hnd⟩ := hW
  have hA : DataW.TrodAll enc Tryz.prog W 0 (fun _ => true) true Tryz.f7.params.toList args.toList ds p := hA0
  rw [Tryz.params7] at hA hval
  obtain ⟨v0, vs0, d0, ds0, p0, q0, hargs, rfl, rfl, h0, r0⟩ := trodAll_cons hA
  obtain ⟨v1, vs1, d1, ds1, p1, q1, rfl, rfl, rfl, h1, r1⟩ := trodAll_cons r0
  obtain ⟨rfl, rfl, rfl⟩ := trodAll_nil r1
  obtain rfl : args = #[v0, v1] := by cases args; simp_all
  obtain ⟨rfl, rfl⟩ := trodVars_none hV
  obtain ⟨a0, rfl, rfl, rfl, w0⟩ := open_int Tryz.underlying5 (hval 0 5 v0 rfl rfl) h0
  obtain ⟨a1, rfl, rfl, rfl, w1⟩ := Go.ChangeMaps.open_string Tryz.underlying9 (hval 1 9 v1 rfl rfl) h1
  clear hA0
  simp only [List.append_nil] at hW'
  refine (walk a0 a1 w0 w1 W hT ).mono fun e W' ⟨he, hb⟩ => ?_
  subst he
  exact ⟨_, rfl, _, _, _, [], [], [], hW', trodAll_cons_mk (shut_bool Tryz.underlying4 _) trodAll_mk0, (trodAll_cons_mk (shut_int Tryz.underlying5 w0) (trodAll_cons_mk (Go.ChangeMaps.shut_string Tryz.underlying9 w1) trodAll_mk0)), rfl, hb.frame _, fun h => by cases h⟩

set_option maxRecDepth 100000 in
theorem lifted (os : Os) (started : os.Started) (H : Type) (enc : TypeId × Value → H) (F : Stop.Interp) :
    ReturnsInHanded {} Tryz.checked os 7 .any ((OpenSpec.ofChange Rows.fieldNormalSpec).preRow enc Tryz.prog Tryz.f7 Rows.fieldNormalRow.domain false Rows.fieldNormalRow.laid) (((OpenSpec.ofChange Rows.fieldNormalSpec).at F).post enc Tryz.prog Tryz.f7 false true false false) := by
  refine returnsInHanded_of_row (C := Tryz.checked) (s := OpenSpec.ofChange Rows.fieldNormalSpec) FRow.own started (by kernel_rfl) Tryz.func7
    (ChangeSpec.witness_shaped (enc := enc) (C := Tryz.checked) (os := os) (X := fun w _ => laidMetH Tryz.prog FRow.laidL w) false (World.laidAll Tryz.prog os FRow.laidL) #[.int .u8 0, .string ByteArray.empty] 8 (World.laidAll_os _ _ _)
      (FRow.wit_shaped os _) (by kernel_rfl) (by kernel_rfl) (by kernel_rfl) (FRow.wit_laid os _)) ?_
  intro W base args ds gs before hval hW _ _ _ hL hS _
  exact contract H enc W base args ds gs before hval hW hL hS

theorem said : Rows.FieldNormalSaid :=
  OpenClaim.holds_of_cond 7 Tryz.f7 rfl rfl rfl rfl rfl rfl rfl ⟨rfl, rfl, rfl, rfl, rfl⟩ rfl rfl rfl rfl rfl (by kernel_rfl) Tryz.func7 (by kernel_rfl)
    (of_decide_eq_true (by kernel_rfl)) (by unfold Func.isWrapper; first | (rw [if_pos (by decide +kernel)]; kernel_rfl) | (rw [if_neg (by decide +kernel)]; exact ⟨rfl, rfl⟩))
    (fun os started H enc _ F => by rw [OpenClaim.pre_eq_preRow]; exact lifted os started H enc F)

theorem plain (f : FuncId) (fn : Func) (hf : Tryz.pinned.checked.prog.funcNamed "wakeman/wakemanlaw06.FieldNormal" = some f) (hfn : Tryz.pinned.checked.prog.funcs[f]? = some fn) :
    true = Tryz.pinned.checked.prog.looks [] ∧ ∀ (j : Nat) t, fn.params[j]? = some t → Tryz.pinned.checked.prog.wantsStandIn t = false := by
  obtain rfl : f = 7 := Option.some.inj ((show Tryz.prog.funcNamed "wakeman/wakemanlaw06.FieldNormal" = some 7 by kernel_rfl).symm.trans hf) |>.symm
  obtain rfl : fn = Tryz.f7 := (Option.some.inj (Tryz.func7.symm.trans hfn)).symm
  refine ⟨by kernel_rfl, fun j t ht => ?_⟩
  rw [Tryz.params7] at ht
  have hm : t ∈ [5, 9] := by simpa using Array.mem_of_getElem? ht
  have hall : ([5, 9].all fun u => !Tryz.prog.wantsStandIn u) = true := by kernel_rfl
  exact (show Tryz.prog.wantsStandIn t = false by simpa using List.all_eq_true.1 hall t hm)

theorem card : Rows.FieldNormalCardSaid :=
  Claim7.holds_tied_plain_at .later [] _ _ _ _ said (fun _ h => by cases h) (by kernel_rfl) (fun _ h => by cases h) fieldNormal_row_tie rfl ⟨rfl, rfl⟩ (by kernel_rfl) rfl plain (by kernel_rfl)
#print axioms card
end Go.Proofs.YtfhcnndleaoobaaGreatDoor.fieldNormal
