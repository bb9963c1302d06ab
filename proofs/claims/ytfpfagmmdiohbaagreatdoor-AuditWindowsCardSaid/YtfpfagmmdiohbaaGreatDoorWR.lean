/-
  What the rows of this seat share: the laid tables; configurations and events as arguments; the world of the witness; Bytes, and pairs of bytes, as arguments.
-/
import Derived.Test.YtfpfagmmdiohbaaGreatDoorWM
import Derived.Test.YtfpfagmmdiohbaaGreatDoorWG
import Derived.Test.YtfpfagmmdiohbaaGreatDoorCards
import Derived.Test.YtfpfagmmdiohbaaGreatDoorTie
import Derived.WalkKit
import Derived.ProofKit
import Derived.OpenShut
import Derived.ChangeSame
import Derived.ChangeArms
import Derived.WideShapes
import Derived.Deep.DeepHandedRow
import Derived.Lib.LaidTab
import Derived.Lib.LaidU8
import Derived.Lib.SmallJoins
import Derived.Stop.LaidErr
import Derived.Lay
import Derived.LaidMore
set_option linter.unusedVariables false
set_option linter.unusedSimpArgs false
set_option linter.unusedVariables false
set_option linter.unusedSimpArgs false
namespace Go.Proofs.YtfpfagmmdiohbaaGreatDoor.VRow
open Go.ChangeShapes Go.WideShapes Go.ChangeAt Go.RowKit Vc
theorem own : ownKnob Tryz.prog.godebug = none := by kernel_rfl
/-- The list of the laid variables. -/
def laidL : List (String × DataW Unit) := Rows.auditRatesRow.laid
structure VTabs (w : World) : Prop where
  sp : Globs (memW w) glSp
  mx : Globs (memW w) glMx
theorem named_sp : Tryz.prog.globalNamed "strings.asciiSpace" = some 1 := by kernel_rfl
theorem types_sp : (Tryz.prog.globals[1]?).map (·.type) = some 109 := by kernel_rfl
theorem cells_sp : Tryz.prog.cellsOf 109 = 256 := by kernel_rfl
theorem cells_u8 : Tryz.prog.cellsOf 5 = 1 := by kernel_rfl
def spZ : List Int := spTab.map fun b => Int.ofNat b.toNat
theorem sp_data : (Rows.laid_strings_asciiSpace : DataW Unit) = Lib.tabData .u8 spZ := by kernel_rfl
theorem sp_of {W : World} (h : Lib.VarReads Tryz.prog W "strings.asciiSpace" Rows.laid_strings_asciiSpace) : Globs (memW W) glSp := by
  obtain ⟨g', t', cs, fuel, p, hg', ht', hvar, hd⟩ := h
  obtain rfl := Option.some.inj (named_sp.symm.trans hg')
  obtain rfl := Option.some.inj (types_sp.symm.trans ht')
  rw [sp_data] at hd
  have hc := Lib.cells_of_tab Tryz.underlying109 Tryz.underlying5 cells_u8 cells_sp hd
  refine glob_of named_sp hvar ?_
  rw [valL_bytes, hc]
  simp [spZ]
theorem named_mx : Tryz.prog.globalNamed "wakeman/mix.steps" = some 6 := by kernel_rfl
theorem types_mx : (Tryz.prog.globals[6]?).map (·.type) = some 294 := by kernel_rfl
theorem trod_lit {fuel : Nat} {W : World} {t : TypeId} {k k' : IntKind} {z : Int} {cs : List Value} {p : List MemPlace} (ht : Tryz.prog.underlying t = some (.int k'))
    (h : DataW.trod (fun _ => ()) Tryz.prog W 0 (fun _ => true) false fuel t cs = some (.lit (.int k z), p)) : cs = [.int k z] := by
  obtain ⟨n, h1, h2, _⟩ := DataW.trod_int ht h
  cases h2; exact h1
set_option maxRecDepth 100000 in
theorem trod_step {fuel : Nat} {W : World} {a b : Int} {cs : List Value} {p : List MemPlace}
    (h : DataW.trod (fun _ => ()) Tryz.prog W 0 (fun _ => true) false fuel 293 cs = some (.agg [.lit (.int .i64 a), .lit (.int .u64 b)], p)) : cs = [.int .i64 a, .int .u64 b] := by
  cases fuel with
  | zero => simp [DataW.trod] at h
  | succ fuel =>
    have hct : Tryz.prog.cellsOf 293 = 2 := by kernel_rfl
    have hc0 : Tryz.prog.cellsOf 3 = 1 := by kernel_rfl
    have hc1 : Tryz.prog.cellsOf 22 = 1 := by kernel_rfl
    simp only [DataW.trod, Tryz.underlying293, hct] at h
    split at h
    · rename_i hl
      obtain ⟨c0, c1, rfl⟩ : ∃ c0 c1, cs = [c0, c1] := by
        match cs, hl with
        | [c0, c1], _ => exact ⟨c0, c1, rfl⟩
      simp only [List.mapM_cons, List.mapM_nil, hc0, hc1, List.drop_zero, List.drop_succ_cons, List.take_succ_cons, List.take_zero, List.take_nil, List.drop_nil] at h
      obtain ⟨xs, hx, he⟩ := Option.map_eq_some_iff.1 h
      simp only [Option.bind_eq_bind, Option.bind_eq_some_iff, Option.pure_def, Option.some.injEq] at hx
      obtain ⟨y0, h0, r0, ⟨y1, h1, r1, rfl, rfl⟩, rfl⟩ := hx
      simp at he
      obtain ⟨⟨e0, e1⟩, _⟩ := he
      have k0 := trod_lit Tryz.underlying3 (h0.trans (by rw [← e0]))
      have k1 := trod_lit Tryz.underlying22 (h1.trans (by rw [← e1]))
      cases k0; cases k1; rfl
    · cases h
set_option maxRecDepth 100000 in
theorem trod_steps {fuel : Nat} {W : World} {cs : List Value} {p : List MemPlace}
    (h : DataW.trod (fun _ => ()) Tryz.prog W 0 (fun _ => true) false fuel 294 cs = some (Rows.laid_wakeman_mix_steps, p)) :
    cs = [.int .i64 30, .int .u64 13787848793156543929, .int .i64 27, .int .u64 10723151780598845931, .int .i64 31, .int .u64 1] := by
  cases fuel with
  | zero => simp [DataW.trod] at h
  | succ fuel =>
    have hct : Tryz.prog.cellsOf 294 = 6 := by kernel_rfl
    have hc0 : Tryz.prog.cellsOf 293 = 2 := by kernel_rfl
    simp only [DataW.trod, Tryz.underlying294, hct, hc0] at h
    split at h
    · rename_i hl
      obtain ⟨c0, c1, c2, c3, c4, c5, rfl⟩ : ∃ c0 c1 c2 c3 c4 c5, cs = [c0, c1, c2, c3, c4, c5] := by
        match cs, hl with
        | [c0, c1, c2, c3, c4, c5], _ => exact ⟨c0, c1, c2, c3, c4, c5, rfl⟩
      have hr : List.range 3 = [0, 1, 2] := by decide
      obtain ⟨xs, hx, he⟩ := Option.map_eq_some_iff.1 h
      rw [hr] at hx
      simp only [List.mapM_cons, List.mapM_nil, Option.bind_eq_bind, Option.bind_eq_some_iff, Option.pure_def, Option.some.injEq] at hx
      obtain ⟨y0, h0, r0, ⟨y1, h1, r1, ⟨y2, h2, r2, rfl, rfl⟩, rfl⟩, rfl⟩ := hx
      simp only [Rows.laid_wakeman_mix_steps, List.map_cons, List.map_nil, Prod.mk.injEq, DataW.agg.injEq, List.cons.injEq, and_true] at he
      obtain ⟨⟨e0, e1, e2⟩, _⟩ := he
      have k0 := trod_step (h0.trans (by rw [← e0]))
      have k1 := trod_step (h1.trans (by rw [← e1]))
      have k2 := trod_step (h2.trans (by rw [← e2]))
      simp at k0 k1 k2
      obtain ⟨rfl, rfl⟩ := k0
      obtain ⟨rfl, rfl⟩ := k1
      obtain ⟨rfl, rfl⟩ := k2
      rfl
    · cases h
theorem mx_of {W : World} (h : Lib.VarReads Tryz.prog W "wakeman/mix.steps" Rows.laid_wakeman_mix_steps) : Globs (memW W) glMx := by
  obtain ⟨g', t', cs, fuel, p, hg', ht', hvar, hd⟩ := h
  obtain rfl := Option.some.inj (named_mx.symm.trans hg')
  obtain rfl := Option.some.inj (types_mx.symm.trans ht')
  have hcs := trod_steps hd
  refine glob_of named_mx hvar ?_
  rw [hcs]; rfl
theorem tabs_of {W : World} (hL : laidMetH Tryz.prog laidL W) (hS : W.ShapedOpen Tryz.prog) : VTabs W := by
  have hL' : laidMet Tryz.prog laidL W := hL
  exact ⟨sp_of (Lib.laidMet.reads hL' (.tail _ (.tail _ (.tail _ (.tail _ (.head _)))))), mx_of (Lib.laidMet.reads hL' (.tail _ (.tail _ (.head _))))⟩
theorem wit_shaped (os : Os) (args : Array Value) : ((World.laidAll Tryz.prog os laidL).forCall (fun _ _ => 0) ⟨#[], args, []⟩).Shaped Tryz.prog :=
  World.shaped_of_ZipB (by kernel_rfl) (by kernel_rfl)
theorem wit_laid (os : Os) (args : Array Value) : laidMetH Tryz.prog laidL ((World.laidAll Tryz.prog os laidL).forCall (fun _ _ => 0) ⟨#[], args, []⟩).memory := by
  rw [MakeChecks.laidMetH_plain _ _ _ (by kernel_rfl)]
  exact laidMet_laidAll _ (by kernel_rfl) (by kernel_rfl)
section
variable {H : Type} {enc : TypeId × Value → H} {w : World} {base : Nat} {sp : Nat → Bool} {held : Bool}
end
end Go.Proofs.YtfpfagmmdiohbaaGreatDoor.VRow
set_option linter.unusedVariables false
set_option linter.unusedSimpArgs false
set_option linter.unusedVariables false
set_option linter.unusedSimpArgs false
namespace Go.Proofs.YtfpfagmmdiohbaaGreatDoor.VRow
open Go.ChangeShapes Go.WideShapes Go.ChangeAt Go.RowKit Vc
section
variable {H : Type} {enc : TypeId × Value → H} {w : World} {base : Nat} {sp : Nat → Bool} {held : Bool}
theorem lfs_u8 : lfsT Tryz.prog 3 5 = some [.i .u8] := by kernel_rfl
theorem lfs_u8s : lfsT Tryz.prog 3 40 = some [.sl 5] := by kernel_rfl
theorem two_cells : Tryz.prog.cellsOf 41 = 2 := by kernel_rfl
theorem u8_cells : Tryz.prog.cellsOf 5 = 1 := by kernel_rfl
set_option maxRecDepth 100000 in
theorem open_u8s {v : Value} {d : DataW H} {p : List MemPlace} (hv : Value.okWide Tryz.prog w .any base 40 v) (h : DataW.Trod enc Tryz.prog w 0 sp held 40 v d p) :
    ∃ a n c, v = .slice a n c ∧ n ≤ c ∧ c ≤ maxLen ∧ ∃ l, BytesAt (memW w) a n l := by
  obtain ⟨a, len, cap, rfl⟩ := Go.WideShapes.okWide_slice Tryz.underlying40 hv
  obtain ⟨fuel, hf⟩ := h
  obtain ⟨u, hu, hk⟩ := (lfs_ok _ _ _ lfs_u8s _ _ _ hf).2 0 _ rfl
  simp [Value.cells] at hu
  subst hu
  obtain ⟨a', n', c', he, h1, h2, h3⟩ := hk.row
  cases he
  refine ⟨a, len, cap, rfl, h1, h2, ?_⟩
  have g := h3 3 _ lfs_u8
  obtain ⟨l, hl, hq⟩ := list_of (Q := fun i x => ByteAt (memW w) a (i : Int) x) len (fun i hi => by
    obtain ⟨u, hu, x, rfl, hw⟩ := g i hi 0 _ rfl
    have hk : IntKind.u8.min ≤ x ∧ x ≤ IntKind.u8.max := by simpa [Lit.wf] using hw
    exact ⟨x, by simpa using hu, hk⟩)
  exact ⟨l, hl, hq⟩
set_option maxRecDepth 100000 in
theorem open_two {v : Value} {d : DataW H} {p : List MemPlace} (hv : Value.okWide Tryz.prog w .any base 41 v) (h : DataW.Trod enc Tryz.prog w 0 sp held 41 v d p) :
    ∃ x y : Int, v = .agg #[.int .u8 x, .int .u8 y] ∧ (0 ≤ x ∧ x ≤ 255) ∧ (0 ≤ y ∧ y ≤ 255) := by
  simp only [Value.okWide, Tryz.underlying41] at hv
  obtain ⟨cs, rfl, hsz, _⟩ := hv
  obtain ⟨fuel, hf⟩ := h
  obtain ⟨xs, m, rfl, _, hlen, hxl, hx⟩ := DataW.trod_array Tryz.underlying41 hf
  rw [two_cells] at hlen
  rw [u8_cells] at hx
  simp only [Value.cells] at hlen hx
  obtain ⟨c0, c1, hcs⟩ : ∃ c0 c1, cs.toList = [c0, c1] := by
    match hcl : cs.toList, hlen with
    | [c0, c1], _ => exact ⟨c0, c1, rfl⟩
  obtain rfl : cs = #[c0, c1] := by cases cs; simp_all
  have h0 := hx 0 (by omega)
  have h1 := hx 1 (by omega)
  rw [List.getElem?_eq_getElem (by omega)] at h0 h1
  simp at h0 h1
  obtain ⟨x, hx1, _, hw⟩ := DataW.trod_int Tryz.underlying5 h0
  obtain ⟨y, hy1, _, hw2⟩ := DataW.trod_int Tryz.underlying5 h1
  cases hx1; cases hy1
  refine ⟨x, y, rfl, ?_, ?_⟩
  · simpa [Lit.wf, IntKind.min, IntKind.max, IntKind.signed, IntKind.bits] using hw
  · simpa [Lit.wf, IntKind.min, IntKind.max, IntKind.signed, IntKind.bits] using hw2
end
end Go.Proofs.YtfpfagmmdiohbaaGreatDoor.VRow
