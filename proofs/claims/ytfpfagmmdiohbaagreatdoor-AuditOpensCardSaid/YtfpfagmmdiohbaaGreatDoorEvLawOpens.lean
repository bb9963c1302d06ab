/-
  AuditOpens: the walk, the row, the card.
-/
import Derived.Test.YtfpfagmmdiohbaaGreatDoorEvRow
import Derived.Test.YtfpfagmmdiohbaaGreatDoorEvOpA
import Derived.Test.YtfpfagmmdiohbaaGreatDoorEvOpB
import Derived.Test.YtfpfagmmdiohbaaGreatDoorEvOpC
set_option linter.unusedVariables false
set_option linter.unusedSimpArgs false
namespace Go.Proofs.YtfpfagmmdiohbaaGreatDoor.auditOpens
open Go.ChangeShapes Go.WideShapes Go.ChangeAt Go.RowKit

theorem u8_bd {a : Int} (h : (Lit.int .u8 a).wf = true) : 0 ≤ a ∧ a ≤ 255 := by
  simp [Lit.wf, IntKind.min, IntKind.max, IntKind.signed, IntKind.bits] at h
  omega

def sg (a0 a1 a2 : Int) : Nat → Int := fun i => if i = 0 then a0 else if i = 1 then a1 else a2

theorem rng_ok (a0 a1 a2 : Int) (h0 : 0 ≤ a0 ∧ a0 ≤ 255) (h1 : 0 ≤ a1 ∧ a1 ≤ 255) (h2 : 0 ≤ a2 ∧ a2 ≤ 255) (i : Nat) (r : Int × Int) (h : Ev.lget [((0 : Int), (255 : Int)), (0, 255), (0, 255)] i = some r) : r.1 ≤ sg a0 a1 a2 i ∧ sg a0 a1 a2 i ≤ r.2 := by
  rw [Ev.lget_eq] at h
  match i, h with
  | 0, h => simp at h; subst h; exact h0
  | 1, h => simp at h; subst h; exact h1
  | 2, h => simp at h; subst h; exact h2
  | i + 3, h => simp at h

theorem know_c (a0 a1 a2 : Int) (h0 : 0 ≤ a0 ∧ a0 ≤ 255) (h1 : 0 ≤ a1 ∧ a1 ≤ 255) (h2 : 0 ≤ a2 ∧ a2 ≤ 255) : Ev.KnowOk Ev.KC (sg a0 a1 a2) := by
  refine ⟨rng_ok a0 a1 a2 h0 h1 h2, fun a b t h => ?_, fun a b t h => by cases h⟩
  simp only [Ev.KC, List.mem_cons, List.not_mem_nil, or_false, Prod.mk.injEq] at h
  obtain ⟨rfl, rfl, rfl⟩ := h
  simp only [Ev.at1, Ev.at2, Ev.IE.val, sg, decide_eq_true_eq]
  simp
  omega

theorem know_o (a0 a1 a2 : Int) (h0 : 0 ≤ a0 ∧ a0 ≤ 255) (h1 : 0 ≤ a1 ∧ a1 ≤ 255) (h2 : 0 ≤ a2 ∧ a2 ≤ 255) : Ev.KnowOk (Ev.KO (decide (101 + a0 ≤ 100 + a1 + a2))) (sg a0 a1 a2) := by
  refine ⟨rng_ok a0 a1 a2 h0 h1 h2, fun a b t h => ?_, fun a b t h => by cases h⟩
  simp only [Ev.KO, List.mem_cons, List.not_mem_nil, or_false, Prod.mk.injEq] at h
  rcases h with ⟨rfl, rfl, rfl⟩ | ⟨rfl, rfl, rfl⟩
  · simp only [Ev.at1, Ev.at2, Ev.IE.val, sg, decide_eq_true_eq]
    simp
    omega
  · simp [Ev.wh, Ev.at1, Ev.at2, Ev.IE.val, sg]

/-- AuditOpens: the walk is the evaluator's. -/
theorem walk (a0 a1 a2 : Int) (a3 a4 : Bool) (w0 : (Lit.int .u8 a0).wf = true) (w1 : (Lit.int .u8 a1).wf = true) (w2 : (Lit.int .u8 a2).wf = true) (w : World) (hT : Ev.TabV w) :
    Calls Tryz.prog 5 #[.int .u8 a0, .int .u8 a1, .int .u8 a2, .bool a3, .bool a4] w fun e w' => e = .returned (.bool true) ∧ Below w.heap.size w w' := by
  have h0 := u8_bd w0
  have h1 := u8_bd w1
  have h2 := u8_bd w2
  have hx : Ev.concL (Ev.V0 (sg a0 a1 a2)) (Ev.argsO a3 a4) = some [.int .u8 a0, .int .u8 a1, .int .u8 a2, .bool a3, .bool a4] := rfl
  cases a3 with
  | true =>
    cases a4 with
    | true => exact Ev.ev_true (know_c a0 a1 a2 h0 h1 h2) hT hx Ev.opens_tt
    | false => exact Ev.ev_true (know_c a0 a1 a2 h0 h1 h2) hT hx Ev.opens_tf
  | false =>
    cases a4 with
    | true => exact Ev.ev_true (know_c a0 a1 a2 h0 h1 h2) hT hx Ev.opens_ft
    | false => exact Ev.ev_true (know_o a0 a1 a2 h0 h1 h2) hT hx (Ev.opens_ff _)

set_option maxRecDepth 100000 in
theorem contract (H : Type) (enc : TypeId × Value → H) (W : World) (base : Nat) (args : Array Value) (ds gs : List (DataW H)) (before : List MemPlace)
    (hval : ∀ (j : Nat) t v, Tryz.f5.params[j]? = some t → args[j]? = some v → Value.okWide Tryz.prog W .any base t v)
    (hW : DataW.Whole enc Tryz.prog Tryz.f5.params.toList Rows.auditOpensSpec.vars false W args.toList ds gs before) (hL : laidMetH Tryz.prog Rows.auditOpensRow.laid W) (hS : W.ShapedOpen Tryz.prog) :
    Calls Tryz.prog 5 args W fun e W' => ∃ v, e = .returned v ∧ Rows.auditOpensSpec.post enc Tryz.prog Tryz.f5 false true false false W args v W' := by
  have hT : Ev.TabV W := ERow.tabs_of hL hS
  have hW' := hW
  obtain ⟨p, q, hA0, hV, rfl, hfz, hnd⟩ := hW
  have hA : DataW.TrodAll enc Tryz.prog W 0 (fun _ => true) true Tryz.f5.params.toList args.toList ds p := hA0
  rw [Tryz.params5] at hA hval
  obtain ⟨v0, vs0, d0, ds0, p0, q0, hargs, rfl, rfl, h0, r0⟩ := trodAll_cons hA
  obtain ⟨v1, vs1, d1, ds1, p1, q1, rfl, rfl, rfl, h1, r1⟩ := trodAll_cons r0
  obtain ⟨v2, vs2, d2, ds2, p2, q2, rfl, rfl, rfl, h2, r2⟩ := trodAll_cons r1
  obtain ⟨v3, vs3, d3, ds3, p3, q3, rfl, rfl, rfl, h3, r3⟩ := trodAll_cons r2
  obtain ⟨v4, vs4, d4, ds4, p4, q4, rfl, rfl, rfl, h4, r4⟩ := trodAll_cons r3
  obtain ⟨rfl, rfl, rfl⟩ := trodAll_nil r4
  obtain rfl : args = #[v0, v1, v2, v3, v4] := by cases args; simp_all
  obtain ⟨rfl, rfl⟩ := trodVars_none hV
  obtain ⟨a0, rfl, rfl, rfl, w0⟩ := open_int Tryz.underlying5 (hval 0 5 v0 rfl rfl) h0
  obtain ⟨a1, rfl, rfl, rfl, w1⟩ := open_int Tryz.underlying5 (hval 1 5 v1 rfl rfl) h1
  obtain ⟨a2, rfl, rfl, rfl, w2⟩ := open_int Tryz.underlying5 (hval 2 5 v2 rfl rfl) h2
  obtain ⟨a3, rfl, rfl, rfl⟩ := open_bool Tryz.underlying4 (hval 3 4 v3 rfl rfl) h3
  obtain ⟨a4, rfl, rfl, rfl⟩ := open_bool Tryz.underlying4 (hval 4 4 v4 rfl rfl) h4
  clear hA0
  simp only [List.append_nil] at hW'
  refine (walk a0 a1 a2 a3 a4 w0 w1 w2 W hT ).mono fun e W' ⟨he, hb⟩ => ?_
  subst he
  exact ⟨_, rfl, _, _, _, [], [], [], hW', trodAll_cons_mk (shut_bool Tryz.underlying4 _) trodAll_mk0, (trodAll_cons_mk (shut_int Tryz.underlying5 w0) (trodAll_cons_mk (shut_int Tryz.underlying5 w1) (trodAll_cons_mk (shut_int Tryz.underlying5 w2) (trodAll_cons_mk (shut_bool Tryz.underlying4 _) (trodAll_cons_mk (shut_bool Tryz.underlying4 _) trodAll_mk0))))), rfl, hb.frame _, fun h => by cases h⟩

set_option maxRecDepth 100000 in
theorem lifted (os : Os) (started : os.Started) (H : Type) (enc : TypeId × Value → H) (F : Stop.Interp) :
    ReturnsInHanded {} Tryz.checked os 5 .any ((OpenSpec.ofChange Rows.auditOpensSpec).preRow enc Tryz.prog Tryz.f5 Rows.auditOpensRow.domain false Rows.auditOpensRow.laid) (((OpenSpec.ofChange Rows.auditOpensSpec).at F).post enc Tryz.prog Tryz.f5 false true false false) := by
  refine returnsInHanded_of_row (C := Tryz.checked) (s := OpenSpec.ofChange Rows.auditOpensSpec) ERow.own started (by kernel_rfl) Tryz.func5
    (ChangeSpec.witness_shaped (enc := enc) (C := Tryz.checked) (os := os) (X := fun w _ => laidMetH Tryz.prog ERow.laidL w) false (World.laidAll Tryz.prog os ERow.laidL) #[.int .u8 0, .int .u8 0, .int .u8 0, .bool false, .bool false] 8 (World.laidAll_os _ _ _)
      (ERow.wit_shaped os _) (by kernel_rfl) (by kernel_rfl) (by kernel_rfl) (ERow.wit_laid os _)) ?_
  intro W base args ds gs before hval hW _ _ _ hL hS _
  exact contract H enc W base args ds gs before hval hW hL hS

theorem said : Rows.AuditOpensSaid :=
  OpenClaim.holds_of_cond 5 Tryz.f5 rfl rfl rfl rfl rfl rfl rfl ⟨rfl, rfl, rfl, rfl, rfl⟩ rfl rfl rfl rfl rfl (by kernel_rfl) Tryz.func5 (by kernel_rfl)
    (of_decide_eq_true (by kernel_rfl)) (by unfold Func.isWrapper; first | (rw [if_pos (by decide +kernel)]; kernel_rfl) | (rw [if_neg (by decide +kernel)]; exact ⟨rfl, rfl⟩))
    (fun os started H enc _ F => by rw [OpenClaim.pre_eq_preRow]; exact lifted os started H enc F)

theorem plain (f : FuncId) (fn : Func) (hf : Tryz.pinned.checked.prog.funcNamed "wakeman/wakemanlaw45.AuditOpens" = some f) (hfn : Tryz.pinned.checked.prog.funcs[f]? = some fn) :
    false = Tryz.pinned.checked.prog.looks [] ∧ ∀ (j : Nat) t, fn.params[j]? = some t → Tryz.pinned.checked.prog.wantsStandIn t = false := by
  obtain rfl : f = 5 := Option.some.inj ((show Tryz.prog.funcNamed "wakeman/wakemanlaw45.AuditOpens" = some 5 by kernel_rfl).symm.trans hf) |>.symm
  obtain rfl : fn = Tryz.f5 := (Option.some.inj (Tryz.func5.symm.trans hfn)).symm
  refine ⟨by kernel_rfl, fun j t ht => ?_⟩
  rw [Tryz.params5] at ht
  have hm : t ∈ ([5, 5, 5, 4, 4] : List TypeId) := by simpa using Array.mem_of_getElem? ht
  have hall : (([5, 5, 5, 4, 4] : List TypeId).all fun u => !Tryz.prog.wantsStandIn u) = true := by kernel_rfl
  exact (show Tryz.prog.wantsStandIn t = false by simpa using List.all_eq_true.1 hall t hm)

theorem card : Rows.AuditOpensCardSaid :=
  Claim7.holds_tied_plain_at .later [] _ _ _ _ said (fun _ h => by cases h) (by kernel_rfl) (fun _ h => by cases h) auditOpens_row_tie rfl ⟨rfl, rfl⟩ (by kernel_rfl) rfl plain (by kernel_rfl)
#print axioms card
end Go.Proofs.YtfpfagmmdiohbaaGreatDoor.auditOpens
