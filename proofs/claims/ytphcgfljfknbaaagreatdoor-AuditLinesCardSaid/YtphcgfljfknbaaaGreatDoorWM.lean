/-
  AuditLines: the walk, the row, the card.
-/
import Derived.Test.YtphcgfljfknbaaaGreatDoorWR
import Derived.Test.YtphcgfljfknbaaaGreatDoorWL
set_option linter.unusedVariables false
set_option linter.unusedSimpArgs false
set_option linter.unusedVariables false
set_option linter.unusedSimpArgs false
namespace Go.Proofs.YtphcgfljfknbaaaGreatDoor.auditLines
open Go.ChangeShapes Go.WideShapes Go.ChangeAt Go.RowKit
-- AuditLines: the contract of the law, at a world.
open Vc in
theorem walk (A : Option Addr) (n c : Nat) (x : Int) (hn : n ≤ c) (hc : c ≤ maxLen) (hx : (Lit.int .u8 x).wf = true) (W : World) (hT : VRow.VTabs W) (hs : ∃ l, U16At (memW W) A n l) :
    Calls Tryz.prog 3 #[.slice A n c, .int .u8 x] W fun e W' => e = .returned (.bool true) ∧ Below W.heap.size W W' := by
  obtain ⟨l, hl⟩ := hs
  have hm : maxLen = 9223372036854775807 := rfl
  have hk : IntKind.u8.min ≤ x ∧ x ≤ IntKind.u8.max := by simpa [Lit.wf] using hx
  have := lLin_ok (memW W) W [.slice A n c, .int .u8 x] _ (fun _ _ h => h) rfl
    ⟨⟨by omega, by omega⟩, rfl, hk, ⟨hT.tm, hT.sp, hT.mx, hn, l, hl⟩⟩
  refine this.mono fun e W' h => ?_
  obtain ⟨m', rs, rs', rfl, hp, hb, _, _, hr⟩ := h
  refine ⟨?_, hb⟩
  obtain ⟨_, _, _, hr⟩ := hr
  match rs, hp, hr with
  | [.bool b], hp, hr =>
    have hb : b = true := hr
    cases hp
    rw [hb]; rfl
set_option maxRecDepth 100000 in
theorem contract (H : Type) (enc : TypeId × Value → H) (W : World) (base : Nat) (args : Array Value) (ds gs : List (DataW H)) (before : List MemPlace)
    (hval : ∀ (j : Nat) t v, Tryz.f3.params[j]? = some t → args[j]? = some v → Value.okWide Tryz.prog W .any base t v)
    (hW : DataW.Whole enc Tryz.prog Tryz.f3.params.toList Rows.auditLinesSpec.vars false W args.toList ds gs before) (hL : laidMetH Tryz.prog Rows.auditLinesRow.laid W) (hS : W.ShapedOpen Tryz.prog) :
    Calls Tryz.prog 3 args W fun e W' => ∃ v, e = .returned v ∧ Rows.auditLinesSpec.post enc Tryz.prog Tryz.f3 false true false false W args v W' := by
  have hT : VRow.VTabs W := VRow.tabs_of hL hS
  have hW' := hW
  obtain ⟨p, q, hA0, hV, rfl, hfz, hnd⟩ := hW
  have hA : DataW.TrodAll enc Tryz.prog W 0 (fun _ => true) true Tryz.f3.params.toList args.toList ds p := hA0
  rw [Tryz.params3] at hA hval
  obtain ⟨v0, vs0, d0, ds0, p0, q0, hargs, rfl, rfl, h0, r0⟩ := trodAll_cons hA
  obtain ⟨v1, vs1, d1, ds1, p1, q1, rfl, rfl, rfl, h1, r1⟩ := trodAll_cons r0
  obtain ⟨rfl, rfl, rfl⟩ := trodAll_nil r1
  obtain rfl : args = #[v0, v1] := by cases args; simp_all
  obtain ⟨rfl, rfl⟩ := trodVars_none hV
  have h0k := h0
  obtain ⟨A0, n0, c0, rfl, hn0, hc0, hs0⟩ := VRow.open_u16s (hval 0 22 v0 rfl rfl) h0
  obtain ⟨a1, rfl, rfl, rfl, w1⟩ := open_int Tryz.underlying5 (hval 1 5 v1 rfl rfl) h1
  clear hA0
  simp only [List.append_nil] at hW'
  refine (walk A0 n0 c0 a1 hn0 hc0 w1 W hT hs0).mono fun e W' ⟨he, hb⟩ => ?_
  subst he
  exact ⟨_, rfl, _, _, _, [], _, [], hW', trodAll_cons_mk (shut_bool Tryz.underlying4 _) trodAll_mk0, (trodAll_cons_mk (Below.trod (by kernel_rfl) (by kernel_rfl) (of_decide_eq_true (by kernel_rfl)) h0k hb (fun x hx => hW'.lt x (by first | (simpa using hx; done) | (simp [hx]; done)))) (trodAll_cons_mk (shut_int Tryz.underlying5 w1) trodAll_mk0)), rfl, hb.frame _, fun h => by cases h⟩
set_option maxRecDepth 100000 in
theorem lifted (os : Os) (started : os.Started) (H : Type) (enc : TypeId × Value → H) (F : Stop.Interp) :
    ReturnsInHanded {} Tryz.checked os 3 .any ((OpenSpec.ofChange Rows.auditLinesSpec).preRow enc Tryz.prog Tryz.f3 Rows.auditLinesRow.domain false Rows.auditLinesRow.laid) (((OpenSpec.ofChange Rows.auditLinesSpec).at F).post enc Tryz.prog Tryz.f3 false true false false) := by
  refine returnsInHanded_of_row (C := Tryz.checked) (s := OpenSpec.ofChange Rows.auditLinesSpec) VRow.own started (by kernel_rfl) Tryz.func3
    (ChangeSpec.witness_shaped (enc := enc) (C := Tryz.checked) (os := os) (X := fun w _ => laidMetH Tryz.prog VRow.laidL w) false (World.laidAll Tryz.prog os VRow.laidL) #[.slice none 0 0, .int .u8 0] 8 (World.laidAll_os _ _ _)
      (VRow.wit_shaped os _) (by kernel_rfl) (by kernel_rfl) (by kernel_rfl) (VRow.wit_laid os _)) ?_
  intro W base args ds gs before hval hW _ _ _ hL hS _
  exact contract H enc W base args ds gs before hval hW hL hS
end Go.Proofs.YtphcgfljfknbaaaGreatDoor.auditLines
