/-
  What the rows of this seat share: the laid tables as the walks ask for them; the world of the witness.
-/
import Derived.Test.YtfhcnndleaoobaaGreatDoorFTabs
import Derived.Test.YtfhcnndleaoobaaGreatDoorCards
import Derived.Test.YtfhcnndleaoobaaGreatDoorTie
import Derived.WalkKit
import Derived.ProofKit
import Derived.OpenShut
import Derived.Deep.DeepHandedRow
import Derived.Lib.LaidTab
import Derived.Lib.LaidU8
import Derived.Lib.SmallJoins
import Derived.Stop.LaidErr
import Derived.Lay
import Derived.LaidMore
set_option linter.unusedVariables false
set_option linter.unusedSimpArgs false
namespace Go.Proofs.YtfhcnndleaoobaaGreatDoor.FRow
open Go.ChangeShapes Go.WideShapes Go.ChangeAt Go.RowKit

theorem own : ownKnob Tryz.prog.godebug = none := by kernel_rfl

/-- The list of the laid variables: the same in all rows of this seat. -/
def laidL : List (String × DataW Unit) := Rows.fieldBackRow.laid

theorem types_g0 : (Tryz.prog.globals[1]?).map (·.type) = some 130 := by kernel_rfl
theorem types_gs : (Tryz.prog.globals[0]?).map (·.type) = some 122 := by kernel_rfl
theorem types_ge : (Tryz.prog.globals[8]?).map (·.type) = some 114 := by kernel_rfl
theorem named_tz : Tryz.prog.globalNamed "math/bits.deBruijn64tab" = some 1 := by kernel_rfl
theorem cells_u8 : Tryz.prog.cellsOf 5 = 1 := by kernel_rfl
theorem cells_str : Tryz.prog.cellsOf 9 = 1 := by kernel_rfl
theorem cells_es : Tryz.prog.cellsOf 212 = 1 := by kernel_rfl
theorem cells_tz : Tryz.prog.cellsOf 130 = 64 := by kernel_rfl
theorem cells_sp : Tryz.prog.cellsOf 122 = 256 := by kernel_rfl
theorem star : "*" ++ "errors.errorString" = "*errors.errorString" := by decide
theorem row_es (u : TypeId) (h : Tryz.prog.typeName? 3 u = some "*errors.errorString") : u = 210 :=
  typeName_ptr_named (nm := "errors.errorString") (by rw [star]; kernel_rfl) (by kernel_rfl) (by decide) u (by rw [star]; exact h)

theorem tz_data : (Rows.laid_math_bits_deBruijn64tab : DataW Unit) = Lib.tabData .u8 (Lib.deBruijn64tab.map fun n : Nat => (n : Int)) := by kernel_rfl
theorem sp_data : (Rows.laid_strings_asciiSpace : DataW Unit) = Lib.tabData .u8 Lib.asciiSpaceTab := by kernel_rfl

theorem tab_of_reads {W : World} {name : String} {zs : List Int} {g : Nat} {t e : TypeId} {n : Nat}
    (hg : Tryz.prog.globalNamed name = some g) (hty : (Tryz.prog.globals[g]?).map (·.type) = some t) (ht : Tryz.prog.underlying t = some (.array n e)) (he : Tryz.prog.underlying e = some (.int .u8)) (hce : Tryz.prog.cellsOf e = 1) (hct : Tryz.prog.cellsOf t = n)
    (h : Lib.VarReads Tryz.prog W name (Lib.tabData .u8 zs)) : Lib.TabIs Tryz.prog W name .u8 zs := by
  obtain ⟨g', t', cs, fuel, p, hg', ht', hvar, hd⟩ := h
  obtain rfl := Option.some.inj (hg.symm.trans hg')
  obtain rfl := Option.some.inj (hty.symm.trans ht')
  unfold Lib.TabIs
  rw [hvar, ← Lib.cells_of_tab ht he hce hct hd]

theorem tabs_of {W : World} (hL : laidMetH Tryz.prog laidL W) (hS : W.ShapedOpen Tryz.prog) : Tabs W := by
  have hL' : laidMet Tryz.prog laidL W := hL
  refine ⟨?_, ?_, ?_, ?_⟩
  · obtain ⟨cs, h, _⟩ := hS.1 11 _ _ (by decide +kernel) rfl
    have := (Array.getElem?_eq_some_iff.1 h).1
    omega
  · have h := tab_of_reads named_tz types_g0 Tryz.underlying130 Tryz.underlying5 cells_u8 cells_tz (tz_data ▸ Lib.laidMet.reads hL' (.tail _ (.head _)))
    intro j hj
    have := h.cell named_tz j (by simpa using hj)
    rw [this]
    simp only [List.getD, List.getElem?_map, List.getElem?_eq_getElem hj, Option.map_some, Option.getD_some]
  · obtain ⟨a0, s0, hv0, -, -, -⟩ := laid_sentinel hL'.tail.tail.tail.tail.tail named_err types_ge Tryz.underlying114 row_es Tryz.underlying210 Tryz.underlying212 rfl rfl Tryz.underlying9 cells_es cells_str
    exact ⟨_, _, hv0⟩
  · exact tab_of_reads named_space types_gs Tryz.underlying122 Tryz.underlying5 cells_u8 cells_sp (sp_data ▸ Lib.laidMet.reads hL' (.tail _ (.tail _ (.tail _ (.tail _ (.tail _ (.tail _ (.tail _ (.head _)))))))))

/-! ### The world of the witness -/
theorem wit_shaped (os : Os) (args : Array Value) : ((World.laidAll Tryz.prog os laidL).forCall (fun _ _ => 0) ⟨#[], args, []⟩).Shaped Tryz.prog :=
  World.shaped_of_ZipB (by kernel_rfl) (by kernel_rfl)
theorem wit_laid (os : Os) (args : Array Value) : laidMetH Tryz.prog laidL ((World.laidAll Tryz.prog os laidL).forCall (fun _ _ => 0) ⟨#[], args, []⟩).memory := by
  rw [MakeChecks.laidMetH_plain _ _ _ (by kernel_rfl)]
  exact laidMet_laidAll _ (by kernel_rfl) (by kernel_rfl)
end Go.Proofs.YtfhcnndleaoobaaGreatDoor.FRow
