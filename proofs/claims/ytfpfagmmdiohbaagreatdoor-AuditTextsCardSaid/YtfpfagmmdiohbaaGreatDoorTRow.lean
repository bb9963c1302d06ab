/-
  What the rows over texts of flaws share: the laid tables; the argument that is a row of flaws; the world of the witness.
-/
import Derived.Test.YtfpfagmmdiohbaaGreatDoorEvWorks
import Derived.Test.YtfpfagmmdiohbaaGreatDoorTAud
import Derived.Test.YtfpfagmmdiohbaaGreatDoorCards
import Derived.Test.YtfpfagmmdiohbaaGreatDoorTie
import Derived.WalkKit
import Derived.ProofKit
import Derived.OpenShut
import Derived.ChangeSame
import Derived.ChangeArms
import Derived.WideShapes
import Derived.Deep.DeepHandedRow
import Derived.Lib.LaidTab
import Derived.Lib.LaidU8
import Derived.Lib.SmallJoins
import Derived.Stop.LaidErr
import Derived.Lay
import Derived.LaidMore
set_option linter.unusedVariables false
set_option linter.unusedSimpArgs false
namespace Go.Proofs.YtfpfagmmdiohbaaGreatDoor.TRow
open Go.ChangeShapes Go.WideShapes Go.ChangeAt Go.RowKit

theorem own : ownKnob Tryz.prog.godebug = none := by kernel_rfl

/-- The list of the laid variables. -/
def laidL : List (String × DataW Unit) := Rows.auditTextsRow.laid

structure TTab (w : World) : Prop where
  steps : Ev.TabV w
  pow : PowTab w
  words : WordsV w

theorem types_pow : (Tryz.prog.globals[3]?).map (·.type) = some 228 := by kernel_rfl
theorem cells_u64 : Tryz.prog.cellsOf 22 = 1 := by kernel_rfl
theorem cells_pow : Tryz.prog.cellsOf 228 = 20 := by kernel_rfl
theorem cells_str : Tryz.prog.cellsOf 9 = 1 := by kernel_rfl
theorem cells_int : Tryz.prog.cellsOf 3 = 1 := by kernel_rfl
theorem cells_flaw : Tryz.prog.cellsOf 39 = 2 := by kernel_rfl
theorem pow_data : (Rows.laid_internal_strconv_uint64pow10 : DataW Unit) = Lib.tabData .u64 Lib.pow10Tab := by kernel_rfl
theorem types_gw : (Tryz.prog.globals[0]?).map (·.type) = some 106 := by kernel_rfl
theorem named_w : Tryz.prog.globalNamed "wakeman/audit.words" = some 0 := by kernel_rfl
theorem w_data : (Rows.laid_wakeman_audit_words : DataW Unit) = .agg (Fl.words.map fun t => .lit (.string t)) := by kernel_rfl

theorem tab_of_reads {W : World} {name : String} {zs : List Int} {g : Nat} {t e : TypeId} {n : Nat}
    (hg : Tryz.prog.globalNamed name = some g) (hty : (Tryz.prog.globals[g]?).map (·.type) = some t) (ht : Tryz.prog.underlying t = some (.array n e)) (he : Tryz.prog.underlying e = some (.int .u64)) (hce : Tryz.prog.cellsOf e = 1) (hct : Tryz.prog.cellsOf t = n)
    (h : Lib.VarReads Tryz.prog W name (Lib.tabData .u64 zs)) : Lib.TabIs Tryz.prog W name .u64 zs := by
  obtain ⟨g', t', cs, fuel, p, hg', ht', hvar, hd⟩ := h
  obtain rfl := Option.some.inj (hg.symm.trans hg')
  obtain rfl := Option.some.inj (hty.symm.trans ht')
  unfold Lib.TabIs
  rw [hvar, ← Lib.cells_of_tab ht he hce hct hd]

set_option maxRecDepth 100000 in
theorem txt_of {W : World} (h : Lib.VarReads Tryz.prog W "wakeman/audit.words" Rows.laid_wakeman_audit_words) (k : Nat) (t : List UInt8) (hk : Fl.words[k]? = some t) : W.cell? ⟨0, k, none⟩ = some (.string ⟨t.toArray⟩) := by
  obtain ⟨g', t', cs, fuel, p, hg', ht', hvar, hd⟩ := h
  obtain rfl := Option.some.inj (named_w.symm.trans hg')
  obtain rfl := Option.some.inj (types_gw.symm.trans ht')
  rw [w_data] at hd
  have hk7 : k < 8 := by have := (List.getElem?_eq_some_iff.1 hk).1; simpa [Fl.words] using this
  obtain ⟨fuel', d, q, hdk, hq⟩ := Lib.array_elem Tryz.underlying106 hd k hk7
  obtain ⟨s, hs, he, -⟩ := DataW.trod_string Tryz.underlying9 hq
  rw [List.getElem?_map, hk] at hdk
  injection he with he _
  rw [he] at hdk
  injection hdk with hdk
  injection hdk with hdk
  injection hdk with hdk
  rw [cells_str, Nat.mul_one] at hs
  have h1 : cs.toList[k]? = some (.string s) := by
    have := congrArg (·[0]?) hs
    simpa [List.getElem?_take, List.getElem?_drop] using this
  rw [World.var?_cell named_w hvar k, ← Array.getElem?_toList, h1, hdk]

set_option maxRecDepth 100000 in
theorem tabs_of {W : World} (hL : laidMetH Tryz.prog laidL W) (hS : W.ShapedOpen Tryz.prog) : TTab W := by
  have hL' : laidMet Tryz.prog laidL W := hL
  refine ⟨Ev.steps_of (Lib.laidMet.reads hL' (.tail _ (.tail _ (.tail _ (.tail _ (.head _)))))), ?_, ?_⟩
  · exact tab_of_reads named_pow types_pow Tryz.underlying228 Tryz.underlying22 cells_u64 cells_pow (pow_data ▸ Lib.laidMet.reads hL' (.tail _ (.tail _ (.head _))))
  · intro q hq
    have hr := Lib.laidMet.reads hL' (.tail _ (.tail _ (.tail _ (.tail _ (.tail _ (.tail _ (.tail _ (.head _))))))))
    have hc := txt_of hr q (Fl.word ((q : Int) + 1)) (by rcases (show q = 0 ∨ q = 1 ∨ q = 2 ∨ q = 3 ∨ q = 4 ∨ q = 5 ∨ q = 6 ∨ q = 7 by omega) with h | h | h | h | h | h | h | h <;> subst h <;> rfl)
    refine ⟨hc, ?_⟩
    rcases Nat.lt_or_ge 0 W.heap.size with h | h
    · exact h
    · unfold World.cell? at hc; simp [Array.getElem?_eq_none h] at hc

/-! ### The world of the witness -/
theorem wit_shaped (os : Os) (args : Array Value) : ((World.laidAll Tryz.prog os laidL).forCall (fun _ _ => 0) ⟨#[], args, []⟩).Shaped Tryz.prog :=
  World.shaped_of_ZipB (by kernel_rfl) (by kernel_rfl)
theorem wit_laid (os : Os) (args : Array Value) : laidMetH Tryz.prog laidL ((World.laidAll Tryz.prog os laidL).forCall (fun _ _ => 0) ⟨#[], args, []⟩).memory := by
  rw [MakeChecks.laidMetH_plain _ _ _ (by kernel_rfl)]
  exact laidMet_laidAll _ (by kernel_rfl) (by kernel_rfl)

theorem add_spot6 (b o j : Nat) : ({ block := b, off := o, spot := none } : Addr).add j = ⟨b, o + j, none⟩ := by
  unfold Addr.add
  split
  · rename_i h; simp [h]
  · rfl
set_option maxRecDepth 100000 in
theorem open_flaws {H : Type} {enc : TypeId × Value → H} {W : World} {base : Nat} {sp : Nat → Bool} {held : Bool} {v : Value} {d : DataW H} {p : List MemPlace}
    (hv : Value.okWide Tryz.prog W .any base 33 v) (h : DataW.Trod enc Tryz.prog W 0 sp held 33 v d p) :
    ∃ (A : Option Addr) (n c : Nat), v = .slice A n c ∧ n ≤ c ∧ c ≤ maxLen ∧ (A = none → c = 0) ∧ ∃ K T : Nat → Int, FlawsAt W A n K T := by
  obtain ⟨a, len, cap, rfl⟩ := Go.WideShapes.okWide_slice Tryz.underlying33 hv
  obtain ⟨fuel, hf⟩ := h
  rcases DataW.trod_slice Tryz.underlying33 hf with ⟨hcs, hx⟩ | ⟨a', len', cap', elems, rest, n, rfl, hcs, hx, hb, hl, hm, hel, hel2, -, -⟩
  · simp [Value.cells] at hcs
    obtain ⟨rfl, rfl, rfl⟩ := hcs
    exact ⟨none, 0, 0, rfl, Nat.le_refl _, Nat.zero_le _, fun _ => rfl, fun _ => 0, fun _ => 0, fun i hi => by omega, .inl rfl⟩
  · simp [Value.cells] at hcs
    obtain ⟨rfl, rfl, rfl⟩ := hcs
    rw [cells_flaw] at hel2
    have one : ∀ i, i < len → ∃ x y : Int, -9223372036854775808 ≤ x ∧ x ≤ 9223372036854775807 ∧ -9223372036854775808 ≤ y ∧ y ≤ 9223372036854775807 ∧ W.cell? ((a'.add (i * 2)).add 0) = some (.int .i64 x) ∧ W.cell? ((a'.add (i * 2)).add 1) = some (.int .i64 y) := by
      intro i hi
      have h1 := hel2 i hi
      rw [List.getElem?_eq_getElem (by omega)] at h1
      obtain ⟨cs, hc1, hc2⟩ := Option.bind_eq_some_iff.1 h1
      obtain ⟨-, hlen, hcell⟩ := World.cells?_some hc1
      obtain ⟨y0, y1, m, -, -, t0, t1⟩ := trod_struct2 Tryz.underlying39 hc2
      obtain ⟨z0, e0, -, w0⟩ := DataW.trod_int Tryz.underlying3 t0
      obtain ⟨z1, e1, -, w1⟩ := DataW.trod_int Tryz.underlying3 t1
      have b0 : -9223372036854775808 ≤ z0 ∧ z0 ≤ 9223372036854775807 := by simpa [Lit.wf, IntKind.min, IntKind.max, IntKind.signed, IntKind.bits] using w0
      have b1 : -9223372036854775808 ≤ z1 ∧ z1 ≤ 9223372036854775807 := by simpa [Lit.wf, IntKind.min, IntKind.max, IntKind.signed, IntKind.bits] using w1
      obtain ⟨c0, c1, rfl⟩ : ∃ c0 c1, cs = [c0, c1] := by
        match cs, hlen with
        | [c0, c1], _ => exact ⟨c0, c1, rfl⟩
      rw [cells_int] at e0 e1
      simp at e0 e1
      subst e0; subst e1
      exact ⟨z0, z1, b0.1, b0.2, b1.1, b1.2, hcell 0 (by simp), hcell 1 (by simp)⟩
    by_cases h0 : len = 0
    · subst h0
      exact ⟨some a', 0, cap, rfl, hl, hm, (by rintro ⟨⟩), fun _ => 0, fun _ => 0, fun i hi => by omega, .inl rfl⟩
    · obtain ⟨x, y, -, -, -, -, hz0, -⟩ := one 0 (by omega)
      have hadd : (a'.add (0 * 2)).add 0 = a' := by rw [Nat.zero_mul]; rfl
      rw [hadd] at hz0
      obtain ⟨b, off, spot⟩ := a'
      obtain rfl : spot = none := World.cell?_spot hz0
      refine ⟨some ⟨b, off, none⟩, len, cap, rfl, hl, hm, (by rintro ⟨⟩), fun j => match W.cell? ⟨b, off + j * 2, none⟩ with | some (.int .i64 z) => z | _ => 0, fun j => match W.cell? ⟨b, off + j * 2 + 1, none⟩ with | some (.int .i64 z) => z | _ => 0, fun j hj => ?_, .inr ⟨b, off, rfl, ?_, fun j hj => ?_⟩⟩
      · obtain ⟨x, y, x0, x1, y0, y1, hx, hy⟩ := one j hj
        rw [add_spot6, add_spot6, Nat.add_zero] at hx
        rw [add_spot6, add_spot6] at hy
        simp only [hx, hy]
        exact ⟨x0, x1, y0, y1⟩
      · rcases Nat.lt_or_ge b W.heap.size with h | h
        · exact h
        · unfold World.cell? at hz0; simp [Array.getElem?_eq_none h] at hz0
      · obtain ⟨x, y, x0, x1, y0, y1, hx, hy⟩ := one j hj
        rw [add_spot6, add_spot6, Nat.add_zero] at hx
        rw [add_spot6, add_spot6] at hy
        simp only [hx, hy]
        exact ⟨trivial, trivial⟩
end Go.Proofs.YtfpfagmmdiohbaaGreatDoor.TRow
