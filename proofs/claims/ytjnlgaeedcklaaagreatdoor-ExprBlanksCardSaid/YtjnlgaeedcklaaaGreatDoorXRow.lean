/-
  What the rows about expressions share: the laid tables and texts as the walks ask for them; the world of the witness; sets of numbers among a law's arguments.
-/
import Derived.Test.YtjnlgaeedcklaaaGreatDoorXTabX
import Derived.Test.YtjnlgaeedcklaaaGreatDoorCards
import Derived.Test.YtjnlgaeedcklaaaGreatDoorTie
import Derived.WalkKit
import Derived.ProofKit
import Derived.OpenShut
import Derived.Deep.DeepHandedRow
import Derived.Lib.LaidTab
import Derived.Lib.LaidU8
import Derived.Lib.SmallJoins
import Derived.Stop.LaidErr
import Derived.Lay
import Derived.LaidMore
set_option linter.unusedVariables false
set_option linter.unusedSimpArgs false
namespace Go.Proofs.YtjnlgaeedcklaaaGreatDoor.XRow
open Go.ChangeShapes Go.WideShapes Go.ChangeAt Go.RowKit

theorem own : ownKnob Tryz.prog.godebug = none := by kernel_rfl

/-- The list of the laid variables: the same in all rows of this seat. -/
def laidL : List (String × DataW Unit) := Rows.exprTimesRow.laid

theorem types_g0 : (Tryz.prog.globals[3]?).map (·.type) = some 199 := by kernel_rfl
theorem types_gs : (Tryz.prog.globals[1]?).map (·.type) = some 162 := by kernel_rfl
theorem types_ge : (Tryz.prog.globals[9]?).map (·.type) = some 74 := by kernel_rfl
theorem named_tz : Tryz.prog.globalNamed "math/bits.deBruijn64tab" = some 3 := by kernel_rfl
theorem cells_u8 : Tryz.prog.cellsOf 5 = 1 := by kernel_rfl
theorem cells_str : Tryz.prog.cellsOf 9 = 1 := by kernel_rfl
theorem cells_es : Tryz.prog.cellsOf 255 = 1 := by kernel_rfl
theorem cells_tz : Tryz.prog.cellsOf 199 = 64 := by kernel_rfl
theorem cells_sp : Tryz.prog.cellsOf 162 = 256 := by kernel_rfl
theorem star : "*" ++ "errors.errorString" = "*errors.errorString" := by decide
theorem row_es (u : TypeId) (h : Tryz.prog.typeName? 3 u = some "*errors.errorString") : u = 253 :=
  typeName_ptr_named (nm := "errors.errorString") (by rw [star]; kernel_rfl) (by kernel_rfl) (by decide) u (by rw [star]; exact h)

theorem tz_data : (Rows.laid_math_bits_deBruijn64tab : DataW Unit) = Lib.tabData .u8 (Lib.deBruijn64tab.map fun n : Nat => (n : Int)) := by kernel_rfl
theorem sp_data : (Rows.laid_strings_asciiSpace : DataW Unit) = Lib.tabData .u8 Lib.asciiSpaceTab := by kernel_rfl

theorem tab_of_reads {W : World} {name : String} {zs : List Int} {g : Nat} {t e : TypeId} {n : Nat}
    (hg : Tryz.prog.globalNamed name = some g) (hty : (Tryz.prog.globals[g]?).map (·.type) = some t) (ht : Tryz.prog.underlying t = some (.array n e)) (he : Tryz.prog.underlying e = some (.int .u8)) (hce : Tryz.prog.cellsOf e = 1) (hct : Tryz.prog.cellsOf t = n)
    (h : Lib.VarReads Tryz.prog W name (Lib.tabData .u8 zs)) : Lib.TabIs Tryz.prog W name .u8 zs := by
  obtain ⟨g', t', cs, fuel, p, hg', ht', hvar, hd⟩ := h
  obtain rfl := Option.some.inj (hg.symm.trans hg')
  obtain rfl := Option.some.inj (hty.symm.trans ht')
  unfold Lib.TabIs
  rw [hvar, ← Lib.cells_of_tab ht he hce hct hd]

set_option maxRecDepth 100000 in
theorem plain_of {W : World} (hL : laidMetH Tryz.prog laidL W) (hS : W.ShapedOpen Tryz.prog) : Tabs W := by
  have hL' : laidMet Tryz.prog laidL W := hL
  refine ⟨?_, ?_, ?_, ?_⟩
  · obtain ⟨cs, h, _⟩ := hS.1 11 _ _ (by decide +kernel) rfl
    have := (Array.getElem?_eq_some_iff.1 h).1
    omega
  · have h := tab_of_reads named_tz types_g0 Tryz.underlying199 Tryz.underlying5 cells_u8 cells_tz (tz_data ▸ Lib.laidMet.reads hL' (.tail _ (.head _)))
    intro j hj
    have := h.cell named_tz j (by simpa using hj)
    rw [this]
    simp only [List.getD, List.getElem?_map, List.getElem?_eq_getElem hj, Option.map_some, Option.getD_some]
  · obtain ⟨a0, s0, hv0, -, -, -⟩ := laid_sentinel hL'.tail.tail.tail.tail.tail named_err types_ge Tryz.underlying74 row_es Tryz.underlying253 Tryz.underlying255 rfl rfl Tryz.underlying9 cells_es cells_str
    exact ⟨_, _, hv0⟩
  · exact tab_of_reads named_space types_gs Tryz.underlying162 Tryz.underlying5 cells_u8 cells_sp (sp_data ▸ Lib.laidMet.reads hL' (.tail _ (.tail _ (.tail _ (.tail _ (.tail _ (.tail _ (.tail _ (.head _)))))))))

theorem types_gt : (Tryz.prog.globals[0]?).map (·.type) = some 99 := by kernel_rfl
theorem named_txt : Tryz.prog.globalNamed "wakeman/expr.texts" = some 0 := by kernel_rfl
theorem tx_data : (Rows.laid_wakeman_expr_texts : DataW Unit) = .agg (macT.map fun t => .lit (.string t)) := by kernel_rfl
theorem tx_mem : ("wakeman/expr.texts", (Rows.laid_wakeman_expr_texts : DataW Unit)) ∈ laidL := by
  unfold laidL Rows.exprTimesRow
  simp

set_option maxRecDepth 100000 in
theorem txt_of {W : World} (hL : laidMet Tryz.prog laidL W) (k : Nat) (t : List UInt8) (hk : macT[k]? = some t) : W.cell? ⟨0, k, none⟩ = some (.string ⟨t.toArray⟩) := by
  obtain ⟨g', t', cs, fuel, p, hg', ht', hvar, hd⟩ := Lib.laidMet.reads hL tx_mem
  obtain rfl := Option.some.inj (named_txt.symm.trans hg')
  obtain rfl := Option.some.inj (types_gt.symm.trans ht')
  rw [tx_data] at hd
  have hk7 : k < 7 := by have := (List.getElem?_eq_some_iff.1 hk).1; simpa [macT] using this
  obtain ⟨fuel', d, q, hdk, hq⟩ := Lib.array_elem Tryz.underlying99 hd k hk7
  obtain ⟨s, hs, he, -⟩ := DataW.trod_string Tryz.underlying9 hq
  rw [List.getElem?_map, hk] at hdk
  injection he with he _
  rw [he] at hdk
  injection hdk with hdk
  injection hdk with hdk
  injection hdk with hdk
  rw [cells_str, Nat.mul_one] at hs
  have h1 : cs.toList[k]? = some (.string s) := by
    have := congrArg (·[0]?) hs
    simpa [List.getElem?_take, List.getElem?_drop] using this
  rw [World.var?_cell named_txt hvar k, ← Array.getElem?_toList, h1, hdk]

set_option maxRecDepth 100000 in
theorem maxlen_of {W : World} (hS : W.ShapedOpen Tryz.prog) : 4 < W.heap.size ∧ ∃ m : Int, W.cell? ⟨4, 0, none⟩ = some (.int .i64 m) := by
  obtain ⟨cs, h, hsz, hok⟩ := hS.1 4 #[.int .i64 0] 3 (by decide +kernel) (by kernel_rfl)
  obtain ⟨ts, hts, -, hall⟩ := hok (by kernel_rfl)
  obtain rfl : ts = [3] := Option.some.inj (hts.symm.trans (by kernel_rfl))
  refine ⟨(Array.getElem?_eq_some_iff.1 h).1, ?_⟩
  have h0 : 0 < cs.size := by rw [hsz]; decide
  obtain ⟨u, hu, hc⟩ := hall 0 _ (Array.getElem?_eq_getElem h0)
  obtain rfl : 3 = u := by simpa using hu
  unfold Cell.ok at hc
  rw [Tryz.underlying3] at hc
  have hcell : W.cell? ⟨4, 0, none⟩ = some cs[0] := by rw [cell_of_row W 4 0 cs 3 (0, 0) h, Array.getElem?_eq_getElem h0]
  generalize cs[0] = v at hc hcell
  cases v with
  | int k m =>
    obtain ⟨rfl, -⟩ : k = .i64 ∧ _ := hc
    exact ⟨m, hcell⟩
  | _ => exact hc.elim

theorem tabs_of {W : World} (hL : laidMetH Tryz.prog laidL W) (hS : W.ShapedOpen Tryz.prog) : TabX W := by
  have hT := plain_of hL hS
  exact ⟨hT, Nat.lt_of_lt_of_le (by decide) hT.size, fun k t h => txt_of hL k t h, (maxlen_of hS).1, (maxlen_of hS).2⟩

/-! ### Sets of numbers among the arguments -/
theorem cells_u64 : Tryz.prog.cellsOf 23 = 1 := by kernel_rfl
theorem cells_six : Tryz.prog.cellsOf 40 = 6 := by kernel_rfl
theorem cells_sets : Tryz.prog.cellsOf 42 = 7 := by kernel_rfl

set_option maxRecDepth 100000 in
theorem open_sets {H : Type} {enc : TypeId × Value → H} {W : World} {base : Nat} {sp : Nat → Bool} {held : Bool} {v : Value} {d : DataW H} {p : List MemPlace}
    (hv : Value.okWide Tryz.prog W .any base 42 v) (h : DataW.Trod enc Tryz.prog W 0 sp held 42 v d p) :
    ∃ (l : Nat → Nat) (k : Nat), v = .agg #[.int .u64 (l 0), .int .u64 (l 1), .int .u64 (l 2), .int .u64 (l 3), .int .u64 (l 4), .int .u64 (l 5), .int .u8 k] ∧ (∀ i, i < 6 → l i < 18446744073709551616) ∧ k < 256 := by
  unfold Value.okWide at hv
  rw [Tryz.underlying42] at hv
  obtain ⟨cs, rfl, hsz, -⟩ := hv
  rw [cells_sets] at hsz
  obtain ⟨n, hn⟩ := h
  have hn' : DataW.trod enc Tryz.prog W 0 sp held n 42 cs.toList = some (d, p) := hn
  clear hn
  cases n with
  | zero => simp [DataW.trod] at hn'
  | succ n =>
    simp only [DataW.trod, Tryz.underlying42] at hn'
    split at hn'
    · obtain ⟨xs, hm, -⟩ := Option.map_eq_some_iff.1 hn'
      obtain ⟨y0, -, h0⟩ := Lib.mapM_at hm 0 _ rfl
      obtain ⟨y1, -, h1⟩ := Lib.mapM_at hm 1 _ rfl
      obtain ⟨z6, h6, -, w6⟩ := DataW.trod_int Tryz.underlying5 h1
      have c6 : cs[6]? = some (.int .u8 z6) := by
        have := congrArg (·[0]?) h6
        rw [← Array.getElem?_toList]
        simpa [List.getElem?_take, List.getElem?_drop, cells_u8] using this
      cases n with
      | zero => simp [DataW.trod] at h0
      | succ n =>
        simp only [DataW.trod, Tryz.underlying40] at h0
        split at h0
        · obtain ⟨zs, hz, -⟩ := Option.map_eq_some_iff.1 h0
          have E : ∀ i : Nat, ∃ z : Nat, i < 6 → cs[i]? = some (.int .u64 z) ∧ z < 18446744073709551616 := by
            intro i
            by_cases hi : i < 6
            · obtain ⟨b, -, hf⟩ := Lib.mapM_at hz i i (by simp [hi])
              obtain ⟨z, hc, -, hw⟩ := DataW.trod_int Tryz.underlying23 hf
              have hw' : 0 ≤ z ∧ z < 18446744073709551616 := by
                have : 0 ≤ z ∧ z ≤ 18446744073709551615 := by simpa [Lit.wf, IntKind.min, IntKind.max, IntKind.signed, IntKind.bits] using hw
                omega
              refine ⟨z.toNat, fun _ => ⟨?_, by omega⟩⟩
              have := congrArg (·[0]?) hc
              rw [← Array.getElem?_toList, show ((z.toNat : Nat) : Int) = z by omega]
              simpa [List.getElem?_take, List.getElem?_drop, cells_u64, cells_six, hi] using this
            · exact ⟨0, fun h => absurd h hi⟩
          obtain ⟨l, hl⟩ := Classical.axiomOfChoice E
          have hw' : 0 ≤ z6 ∧ z6 < 256 := by
            have : 0 ≤ z6 ∧ z6 ≤ 255 := by simpa [Lit.wf, IntKind.min, IntKind.max, IntKind.signed, IntKind.bits] using w6
            omega
          refine ⟨l, z6.toNat, ?_, fun i hi => (hl i hi).2, by omega⟩
          congr 1
          apply Array.ext_getElem?
          intro i
          rw [show ((z6.toNat : Nat) : Int) = z6 by omega]
          rcases (by omega : i = 0 ∨ i = 1 ∨ i = 2 ∨ i = 3 ∨ i = 4 ∨ i = 5 ∨ i = 6 ∨ 7 ≤ i) with rfl | rfl | rfl | rfl | rfl | rfl | rfl | h7
          · exact (hl 0 (by decide)).1
          · exact (hl 1 (by decide)).1
          · exact (hl 2 (by decide)).1
          · exact (hl 3 (by decide)).1
          · exact (hl 4 (by decide)).1
          · exact (hl 5 (by decide)).1
          · exact c6
          · rw [Array.getElem?_eq_none (by omega), Array.getElem?_eq_none (by simpa using h7)]
        · cases h0
    · cases hn'

/-! ### The world of the witness -/
theorem wit_shaped (os : Os) (args : Array Value) : ((World.laidAll Tryz.prog os laidL).forCall (fun _ _ => 0) ⟨#[], args, []⟩).Shaped Tryz.prog :=
  World.shaped_of_ZipB (by kernel_rfl) (by kernel_rfl)
theorem wit_laid (os : Os) (args : Array Value) : laidMetH Tryz.prog laidL ((World.laidAll Tryz.prog os laidL).forCall (fun _ _ => 0) ⟨#[], args, []⟩).memory := by
  rw [MakeChecks.laidMetH_plain _ _ _ (by kernel_rfl)]
  exact laidMet_laidAll _ (by kernel_rfl) (by kernel_rfl)
end Go.Proofs.YtjnlgaeedcklaaaGreatDoor.XRow
