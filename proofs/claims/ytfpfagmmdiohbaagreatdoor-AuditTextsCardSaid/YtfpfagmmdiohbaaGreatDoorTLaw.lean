/-
  AuditTexts: the walk, the row, the card.
-/
import Derived.Test.YtfpfagmmdiohbaaGreatDoorTRow
set_option linter.unusedVariables false
set_option linter.unusedSimpArgs false
namespace Go.Proofs.YtfpfagmmdiohbaaGreatDoor.auditTexts
open Go.ChangeShapes Go.WideShapes Go.ChangeAt Go.RowKit

/-- AuditTexts: both texts are the plain words' answer, and the examples hold. -/
theorem walk (A : Option Addr) (n c : Nat) (hn : n ≤ c) (hc : c ≤ maxLen) (hA : A = none → c = 0) (W : World) (hT : TRow.TTab W) (hs : ∃ K T : Nat → Int, FlawsAt W A n K T) :
    Calls Tryz.prog 7 #[.slice A n c] W fun e W' => e = .returned (.bool true) ∧ Below W.heap.size W W' := by
  obtain ⟨K, T, hf⟩ := hs
  have h4 : ∀ W', Below W.heap.size W W' → Calls Tryz.prog 10 #[] W' fun e w' => e = .returned (.bool true) ∧ Below W'.heap.size W' w' := fun W' hb => Ev.works W' (hT.steps.grow hb)
  have H4 := Lib.hid h4; clear h4
  by_cases h3 : n ≤ 300
  · have h1 := audit_Text A n c K T W (by omega) hf hT.pow hT.words
    have h2 : ∀ W', Below W.heap.size W W' → Calls Tryz.prog 26 #[.slice A n c] W' fun e w' => e = .returned (.tuple #[.string ⟨(Fl.ans K T n).1.toArray⟩, .int .i64 (Fl.ans K T n).2]) ∧ Below W'.heap.size W' w' := fun W' hb => ref_Text A n c K T W' (by omega) (hf.below hb)
    generalize (⟨(Fl.ans K T n).1.toArray⟩ : ByteArray) = S at h1 h2
    generalize (Fl.ans K T n).2 = z at h1 h2
    have H1 := Lib.hid h1; have H2 := Lib.hid h2; clear h1 h2 hf
    go_enter Tryz.func7, Tryz.ntmps7
    go_wp2_with (first
      | (go_at_call 25; ((with_reducible refine H1.out.mono ?_)); rintro e w1 ⟨rfl, hb1⟩)
      | (go_at_call 26; ((with_reducible refine (H2.out _ hb1).mono ?_)); rintro e w2 ⟨rfl, hb2⟩; have hb3 := hb1.trans (hb2.mono hb1.size))
      | (go_at_call 10; ((with_reducible refine (H4.out _ hb3).mono ?_)); rintro e w3 ⟨rfl, hb4⟩))
    go_ret
    exact ⟨rfl, hb3.trans (hb4.mono hb3.size)⟩
  · have hr := Below.refl W.heap.size W
    go_enter Tryz.func7, Tryz.ntmps7
    go_wp2_with (go_at_call 10; ((with_reducible refine (H4.out _ hr).mono ?_)); rintro e w3 ⟨rfl, hb4⟩)
    go_ret
    exact ⟨rfl, hb4⟩

set_option maxRecDepth 100000 in
theorem contract (H : Type) (enc : TypeId × Value → H) (W : World) (base : Nat) (args : Array Value) (ds gs : List (DataW H)) (before : List MemPlace)
    (hval : ∀ (j : Nat) t v, Tryz.f7.params[j]? = some t → args[j]? = some v → Value.okWide Tryz.prog W .any base t v)
    (hW : DataW.Whole enc Tryz.prog Tryz.f7.params.toList Rows.auditTextsSpec.vars false W args.toList ds gs before) (hL : laidMetH Tryz.prog Rows.auditTextsRow.laid W) (hS : W.ShapedOpen Tryz.prog) :
    Calls Tryz.prog 7 args W fun e W' => ∃ v, e = .returned v ∧ Rows.auditTextsSpec.post enc Tryz.prog Tryz.f7 false true false false W args v W' := by
  have hT : TRow.TTab W := TRow.tabs_of hL hS
  have hW' := hW
  obtain ⟨p, q, hA0, hV, rfl, hfz, hnd⟩ := hW
  have hA : DataW.TrodAll enc Tryz.prog W 0 (fun _ => true) true Tryz.f7.params.toList args.toList ds p := hA0
  rw [Tryz.params7] at hA hval
  obtain ⟨v0, vs0, d0, ds0, p0, q0, hargs, rfl, rfl, h0, r0⟩ := trodAll_cons hA
  obtain ⟨rfl, rfl, rfl⟩ := trodAll_nil r0
  obtain rfl : args = #[v0] := by cases args; simp_all
  obtain ⟨rfl, rfl⟩ := trodVars_none hV
  have h0k := h0
  obtain ⟨A0, n0, c0, rfl, hn0, hc0, hz0, hs0⟩ := TRow.open_flaws (hval 0 33 v0 rfl rfl) h0
  clear hA0
  simp only [List.append_nil] at hW'
  refine (walk A0 n0 c0 hn0 hc0 hz0 W hT hs0).mono fun e W' ⟨he, hb⟩ => ?_
  subst he
  exact ⟨_, rfl, _, _, _, [], _, [], hW', trodAll_cons_mk (shut_bool Tryz.underlying4 _) trodAll_mk0, (trodAll_cons_mk (Below.trod (by kernel_rfl) (by kernel_rfl) (of_decide_eq_true (by kernel_rfl)) h0k hb (fun x hx => hW'.lt x (by first | (simpa using hx; done) | (simp [hx]; done)))) trodAll_mk0), rfl, hb.frame _, fun h => by cases h⟩

set_option maxRecDepth 100000 in
theorem lifted (os : Os) (started : os.Started) (H : Type) (enc : TypeId × Value → H) (F : Stop.Interp) :
    ReturnsInHanded {} Tryz.checked os 7 .any ((OpenSpec.ofChange Rows.auditTextsSpec).preRow enc Tryz.prog Tryz.f7 Rows.auditTextsRow.domain false Rows.auditTextsRow.laid) (((OpenSpec.ofChange Rows.auditTextsSpec).at F).post enc Tryz.prog Tryz.f7 false true false false) := by
  refine returnsInHanded_of_row (C := Tryz.checked) (s := OpenSpec.ofChange Rows.auditTextsSpec) TRow.own started (by kernel_rfl) Tryz.func7
    (ChangeSpec.witness_shaped (enc := enc) (C := Tryz.checked) (os := os) (X := fun w _ => laidMetH Tryz.prog TRow.laidL w) false (World.laidAll Tryz.prog os TRow.laidL) #[.slice none 0 0] 8 (World.laidAll_os _ _ _)
      (TRow.wit_shaped os _) (by kernel_rfl) (by kernel_rfl) (by kernel_rfl) (TRow.wit_laid os _)) ?_
  intro W base args ds gs before hval hW _ _ _ hL hS _
  exact contract H enc W base args ds gs before hval hW hL hS
end Go.Proofs.YtfpfagmmdiohbaaGreatDoor.auditTexts
