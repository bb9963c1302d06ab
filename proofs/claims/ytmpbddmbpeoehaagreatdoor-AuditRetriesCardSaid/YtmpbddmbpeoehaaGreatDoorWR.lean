/-
  What the rows of this seat share: the laid tables; configurations and events as arguments; the world of the witness.
-/
import Derived.Test.YtmpbddmbpeoehaaGreatDoorWM
import Derived.Test.YtmpbddmbpeoehaaGreatDoorWG
import Derived.Test.YtmpbddmbpeoehaaGreatDoorCards
import Derived.Test.YtmpbddmbpeoehaaGreatDoorTie
import Derived.WalkKit
import Derived.ProofKit
import Derived.OpenShut
import Derived.ChangeSame
import Derived.ChangeArms
import Derived.WideShapes
import Derived.Deep.DeepHandedRow
import Derived.Lib.LaidTab
import Derived.Lib.LaidU8
import Derived.Lib.SmallJoins
import Derived.Stop.LaidErr
import Derived.Lay
import Derived.LaidMore
set_option linter.unusedVariables false
set_option linter.unusedSimpArgs false
namespace Go.Proofs.YtmpbddmbpeoehaaGreatDoor.VRow
open Go.ChangeShapes Go.WideShapes Go.ChangeAt Go.RowKit Vc
theorem own : ownKnob Tryz.prog.godebug = none := by kernel_rfl
def laidL : List (String × DataW Unit) := Rows.auditRetriesRow.laid
structure VTabs (w : World) : Prop where
 sp : Globs (memW w) glSp
 mx : Globs (memW w) glMx
theorem named_sp : Tryz.prog.globalNamed "strings.asciiSpace" = some 1 := by kernel_rfl
theorem types_sp : (Tryz.prog.globals[1]?).map (·.type) = some 340 := by kernel_rfl
theorem cells_sp : Tryz.prog.cellsOf 340 = 256 := by kernel_rfl
theorem cells_u8 : Tryz.prog.cellsOf 5 = 1 := by kernel_rfl
def spZ : List Int := spTab.map fun b => Int.ofNat b.toNat
theorem sp_data : (Rows.laid_strings_asciiSpace : DataW Unit) = Lib.tabData .u8 spZ := by kernel_rfl
theorem sp_of {W : World} (h : Lib.VarReads Tryz.prog W "strings.asciiSpace" Rows.laid_strings_asciiSpace) : Globs (memW W) glSp := by
 obtain ⟨g', t', cs, fuel, p, hg', ht', hvar, hd⟩ := h
 obtain rfl := Option.some.inj (named_sp.symm.trans hg')
 obtain rfl := Option.some.inj (types_sp.symm.trans ht')
 rw [sp_data] at hd
 have hc := Lib.cells_of_tab Tryz.underlying340 Tryz.underlying5 cells_u8 cells_sp hd
 refine glob_of named_sp hvar ?_
 rw [valL_bytes, hc]
 simp [spZ]
theorem named_mx : Tryz.prog.globalNamed "wakeman/mix.steps" = some 0 := by kernel_rfl
theorem types_mx : (Tryz.prog.globals[0]?).map (·.type) = some 271 := by kernel_rfl
theorem trod_lit {fuel : Nat} {W : World} {t : TypeId} {k k' : IntKind} {z : Int} {cs : List Value} {p : List MemPlace} (ht : Tryz.prog.underlying t = some (.int k'))
  (h : DataW.trod (fun _ => ()) Tryz.prog W 0 (fun _ => true) false fuel t cs = some (.lit (.int k z), p)) : cs = [.int k z] := by
 obtain ⟨n, h1, h2, _⟩ := DataW.trod_int ht h
 cases h2; exact h1
set_option maxRecDepth 100000 in
theorem trod_step {fuel : Nat} {W : World} {a b : Int} {cs : List Value} {p : List MemPlace}
  (h : DataW.trod (fun _ => ()) Tryz.prog W 0 (fun _ => true) false fuel 270 cs = some (.agg [.lit (.int .i64 a), .lit (.int .u64 b)], p)) : cs = [.int .i64 a, .int .u64 b] := by
 cases fuel with
 | zero => simp [DataW.trod] at h
 | succ fuel =>
  have hct : Tryz.prog.cellsOf 270 = 2 := by kernel_rfl
  have hc0 : Tryz.prog.cellsOf 3 = 1 := by kernel_rfl
  have hc1 : Tryz.prog.cellsOf 22 = 1 := by kernel_rfl
  simp only [DataW.trod, Tryz.underlying270, hct] at h
  split at h
  ·rename_i hl
   obtain ⟨c0, c1, rfl⟩ : ∃ c0 c1, cs = [c0, c1] := by
    match cs, hl with
    | [c0, c1], _ => exact ⟨c0, c1, rfl⟩
   simp only [List.mapM_cons, List.mapM_nil, hc0, hc1, List.drop_zero, List.drop_succ_cons, List.take_succ_cons, List.take_zero, List.take_nil, List.drop_nil] at h
   obtain ⟨xs, hx, he⟩ := Option.map_eq_some_iff.1 h
   simp only [Option.bind_eq_bind, Option.bind_eq_some_iff, Option.pure_def, Option.some.injEq] at hx
   obtain ⟨y0, h0, r0, ⟨y1, h1, r1, rfl, rfl⟩, rfl⟩ := hx
   simp at he
   obtain ⟨⟨e0, e1⟩, _⟩ := he
   have k0 := trod_lit Tryz.underlying3 (h0.trans (by rw [← e0]))
   have k1 := trod_lit Tryz.underlying22 (h1.trans (by rw [← e1]))
   cases k0; cases k1; rfl
  ·cases h
set_option maxRecDepth 100000 in
theorem trod_steps {fuel : Nat} {W : World} {cs : List Value} {p : List MemPlace}
  (h : DataW.trod (fun _ => ()) Tryz.prog W 0 (fun _ => true) false fuel 271 cs = some (Rows.laid_wakeman_mix_steps, p)) :
  cs = [.int .i64 30, .int .u64 13787848793156543929, .int .i64 27, .int .u64 10723151780598845931, .int .i64 31, .int .u64 1] := by
 cases fuel with
 | zero => simp [DataW.trod] at h
 | succ fuel =>
  have hct : Tryz.prog.cellsOf 271 = 6 := by kernel_rfl
  have hc0 : Tryz.prog.cellsOf 270 = 2 := by kernel_rfl
  simp only [DataW.trod, Tryz.underlying271, hct, hc0] at h
  split at h
  ·rename_i hl
   obtain ⟨c0, c1, c2, c3, c4, c5, rfl⟩ : ∃ c0 c1 c2 c3 c4 c5, cs = [c0, c1, c2, c3, c4, c5] := by
    match cs, hl with
    | [c0, c1, c2, c3, c4, c5], _ => exact ⟨c0, c1, c2, c3, c4, c5, rfl⟩
   have hr : List.range 3 = [0, 1, 2] := by decide
   obtain ⟨xs, hx, he⟩ := Option.map_eq_some_iff.1 h
   rw [hr] at hx
   simp only [List.mapM_cons, List.mapM_nil, Option.bind_eq_bind, Option.bind_eq_some_iff, Option.pure_def, Option.some.injEq] at hx
   obtain ⟨y0, h0, r0, ⟨y1, h1, r1, ⟨y2, h2, r2, rfl, rfl⟩, rfl⟩, rfl⟩ := hx
   simp only [Rows.laid_wakeman_mix_steps, List.map_cons, List.map_nil, Prod.mk.injEq, DataW.agg.injEq, List.cons.injEq, and_true] at he
   obtain ⟨⟨e0, e1, e2⟩, _⟩ := he
   have k0 := trod_step (h0.trans (by rw [← e0]))
   have k1 := trod_step (h1.trans (by rw [← e1]))
   have k2 := trod_step (h2.trans (by rw [← e2]))
   simp at k0 k1 k2
   obtain ⟨rfl, rfl⟩ := k0
   obtain ⟨rfl, rfl⟩ := k1
   obtain ⟨rfl, rfl⟩ := k2
   rfl
  ·cases h
theorem mx_of {W : World} (h : Lib.VarReads Tryz.prog W "wakeman/mix.steps" Rows.laid_wakeman_mix_steps) : Globs (memW W) glMx := by
 obtain ⟨g', t', cs, fuel, p, hg', ht', hvar, hd⟩ := h
 obtain rfl := Option.some.inj (named_mx.symm.trans hg')
 obtain rfl := Option.some.inj (types_mx.symm.trans ht')
 have hcs := trod_steps hd
 refine glob_of named_mx hvar ?_
 rw [hcs]; rfl
theorem tabs_of {W : World} (hL : laidMetH Tryz.prog laidL W) (hS : W.ShapedOpen Tryz.prog) : VTabs W := by
 have hL' : laidMet Tryz.prog laidL W := hL
 exact ⟨sp_of (Lib.laidMet.reads hL' (by repeat' first | exact List.Mem.head _ | apply List.Mem.tail)), mx_of (Lib.laidMet.reads hL' (by repeat' first | exact List.Mem.head _ | apply List.Mem.tail))⟩
theorem wit_shaped (os : Os) (args : Array Value) : ((World.laidAll Tryz.prog os laidL).forCall (fun _ _ => 0) ⟨#[], args, []⟩).Shaped Tryz.prog :=
 World.shaped_of_ZipB (by kernel_rfl) (by kernel_rfl)
theorem wit_laid (os : Os) (args : Array Value) : laidMetH Tryz.prog laidL ((World.laidAll Tryz.prog os laidL).forCall (fun _ _ => 0) ⟨#[], args, []⟩).memory := by
 rw [MakeChecks.laidMetH_plain _ _ _ (by kernel_rfl)]
 exact laidMet_laidAll _ (by kernel_rfl) (by kernel_rfl)
section
variable {H : Type} {enc : TypeId × Value → H} {w : World} {base : Nat} {sp : Nat → Bool} {held : Bool}
def i64L : Nat → List Lf
 | 0 => []
 | n + 1 => .i .i64 :: i64L n
def jobL : List Lf := [.s, .i .i64, .i .u64, .i .u64, .i .u64, .i .u64, .i .u64, .i .u64, .b, .b, .i .i64, .i .i64, .i .i64, .i .i64, .sl 228] ++ i64L 15
def cfgL : List Lf := [.i .i64, .i .i64, .i .i64, .i .i64, .i .u64, .i .i64, .i .i64, .sl 55]
theorem lfs_ev : lfsT Tryz.prog 3 57 = some (i64L 8) := by kernel_rfl
theorem lfs_span : lfsT Tryz.prog 3 228 = some (i64L 2) := by kernel_rfl
theorem lfs_job : lfsT Tryz.prog 6 55 = some jobL := by kernel_rfl
theorem lfs_cfg : lfsT Tryz.prog 6 29 = some cfgL := by kernel_rfl
theorem lfs_evs : lfsT Tryz.prog 3 30 = some [.sl 57] := by kernel_rfl
theorem evs_of {v : Value} (h : LfOk enc Tryz.prog w base sp held (.sl 57) v) : ∃ a n c, v = .slice a n c ∧ n ≤ c ∧ c ≤ maxLen ∧ ∃ l, EvsAt (memW w) a n l := by
 obtain ⟨a, n, c, rfl, h1, h2, h3⟩ := h.row
 refine ⟨a, n, c, rfl, h1, h2, ?_⟩
 have g := h3 3 _ lfs_ev
 obtain ⟨l, hl, hq⟩ := list_of (Q := fun i x => EvAt (memW w) a ((i : Int) * 8) x) n (fun i hi => by
  have one : ∀ j : Nat, (i64L 8)[j]? = some (.i .i64) → ∃ x, IntAt (memW w) a ((i : Int) * 8 + (j : Int)) x := fun j hj => by
   obtain ⟨u, hu, hk⟩ := g i hi j _ hj
   exact hk.i64 hu
  obtain ⟨x0, a0⟩ := one 0 rfl
  obtain ⟨x1, a1⟩ := one 1 rfl
  obtain ⟨x2, a2⟩ := one 2 rfl
  obtain ⟨x3, a3⟩ := one 3 rfl
  obtain ⟨x4, a4⟩ := one 4 rfl
  obtain ⟨x5, a5⟩ := one 5 rfl
  obtain ⟨x6, a6⟩ := one 6 rfl
  obtain ⟨x7, a7⟩ := one 7 rfl
  exact ⟨{ kind := x0, at_ := x1, job := x2, due := x3, attempt := x4, run := x5, why := x6, when_ := x7 }, by simpa using a0, a1, a2, a3, a4, a5, a6, a7⟩)
 exact ⟨l, hl, hq⟩
theorem spans_of {v : Value} (h : LfOk enc Tryz.prog w base sp held (.sl 228) v) : ∃ a n c, v = .slice a n c ∧ n ≤ c ∧ c ≤ maxLen ∧ ∃ S, SpansAt (memW w) a n S := by
 obtain ⟨a, n, c, rfl, h1, h2, h3⟩ := h.row
 refine ⟨a, n, c, rfl, h1, h2, ?_⟩
 have g := h3 3 _ lfs_span
 obtain ⟨l, hl, hq⟩ := list_of (Q := fun i (x : Int × Int) => IntAt (memW w) a ((i : Int) * 2) x.1 ∧ IntAt (memW w) a ((i : Int) * 2 + 1) x.2) n (fun i hi => by
  have one : ∀ j : Nat, (i64L 2)[j]? = some (.i .i64) → ∃ x, IntAt (memW w) a ((i : Int) * 2 + (j : Int)) x := fun j hj => by
   obtain ⟨u, hu, hk⟩ := g i hi j _ hj
   exact hk.i64 hu
  obtain ⟨x0, a0⟩ := one 0 rfl
  obtain ⟨x1, a1⟩ := one 1 rfl
  exact ⟨(x0, x1), by simpa using a0, a1⟩)
 exact ⟨l, hl, fun i x y e => hq i (x, y) e⟩
theorem jobs_of {v : Value} (h : LfOk enc Tryz.prog w base sp held (.sl 55) v) : ∃ a n c, v = .slice a n c ∧ n ≤ c ∧ c ≤ maxLen ∧ ∃ L, JobsAt (memW w) a n L := by
 obtain ⟨a, n, c, rfl, h1, h2, h3⟩ := h.row
 refine ⟨a, n, c, rfl, h1, h2, ?_⟩
 have g := h3 6 _ lfs_job
 obtain ⟨l, hl, hq⟩ := list_of (Q := fun i x => JobAt (memW w) a ((i : Int) * 30) x) n (fun i hi => by
  have one : ∀ j : Nat, jobL[j]? = some (.i .i64) → ∃ x, IntAt (memW w) a ((i : Int) * 30 + (j : Int)) x := fun j hj => by
   obtain ⟨u, hu, hk⟩ := g i hi j _ hj
   exact hk.i64 hu
  have two : ∀ j : Nat, jobL[j]? = some (.i .u64) → ∃ x, U64At (memW w) a ((i : Int) * 30 + (j : Int)) x := fun j hj => by
   obtain ⟨u, hu, hk⟩ := g i hi j _ hj
   exact hk.u64 hu
  have bl : ∀ j : Nat, jobL[j]? = some .b → ∃ b, cellI (memW w) a ((i : Int) * 30 + (j : Int)) = some (.bool b) := fun j hj => by
   obtain ⟨u, hu, b, rfl⟩ := g i hi j _ hj
   exact ⟨b, hu⟩
  obtain ⟨nm, hnm⟩ : ∃ s, NameAt (memW w) a ((i : Int) * 30) s := by
   obtain ⟨u, hu, s, rfl, hs⟩ := g i hi 0 _ rfl
   exact ⟨s.data.toList, (show cellI (memW w) a ((i : Int) * 30) = some (.string s) by simpa [show jobL.length = 30 from rfl] using hu), hs⟩
  obtain ⟨q, n', c', q1, q2, q3, S, q4⟩ : ∃ q n' c', cellI (memW w) a ((i : Int) * 30 + 14) = some (.slice q n' c') ∧ n' ≤ c' ∧ c' ≤ 9223372036854775807 ∧ ∃ S, SpansAt (memW w) q n' S := by
   obtain ⟨u, hu, hk⟩ := g i hi 14 _ rfl
   obtain ⟨q, n', c', rfl, q2, q3, q4⟩ := spans_of hk
   exact ⟨q, n', c', hu, q2, q3, q4⟩
  obtain ⟨x1, a1⟩ := one 1 rfl
  obtain ⟨x2, a2⟩ := two 2 rfl
  obtain ⟨x3, a3⟩ := two 3 rfl
  obtain ⟨x4, a4⟩ := two 4 rfl
  obtain ⟨x5, a5⟩ := two 5 rfl
  obtain ⟨x6, a6⟩ := two 6 rfl
  obtain ⟨x7, a7⟩ := two 7 rfl
  obtain ⟨x8, a8⟩ := bl 8 rfl
  obtain ⟨x9, a9⟩ := bl 9 rfl
  obtain ⟨x10, a10⟩ := one 10 rfl
  obtain ⟨x11, a11⟩ := one 11 rfl
  obtain ⟨x12, a12⟩ := one 12 rfl
  obtain ⟨x13, a13⟩ := one 13 rfl
  obtain ⟨x15, a15⟩ := one 15 rfl
  obtain ⟨x16, a16⟩ := one 16 rfl
  obtain ⟨x17, a17⟩ := one 17 rfl
  obtain ⟨x18, a18⟩ := one 18 rfl
  obtain ⟨x19, a19⟩ := one 19 rfl
  obtain ⟨x20, a20⟩ := one 20 rfl
  obtain ⟨x21, a21⟩ := one 21 rfl
  obtain ⟨x22, a22⟩ := one 22 rfl
  obtain ⟨x23, a23⟩ := one 23 rfl
  obtain ⟨x24, a24⟩ := one 24 rfl
  obtain ⟨x25, a25⟩ := one 25 rfl
  obtain ⟨x26, a26⟩ := one 26 rfl
  obtain ⟨x27, a27⟩ := one 27 rfl
  obtain ⟨x28, a28⟩ := one 28 rfl
  obtain ⟨x29, a29⟩ := one 29 rfl
  refine ⟨{ name := nm, k := x1, a := x2, b := x3, c := x4, d := x5, e := x6, f := x7, x := x8, y := x9, z := x10, s := x11, t := x12, u := x13, skip := S, pol := { cap := x15, prio := x16, splay := x17, dead := x18, mis := x19, keep := x20, lim := ⟨x21, x22⟩, brk := ⟨x23, x24, x25⟩, ret := ⟨x26, x27, x28, x29⟩ } }, hasI_of (by omega) fun j hj => ?_, hnm, ⟨a1, a2, a3, a4, a5, a6, a7, a8, a9, a10, a11, a12, a13, q, n', c', q1, ⟨q2, q3⟩, q4⟩, ⟨a15, a16, a17, a18, a19, a20, a21, a22, a23, a24, a25, a26, a27, a28, a29⟩⟩
  have hjl : jobL[j]? = some (jobL[j]'(by show j < 30; exact hj)) := List.getElem?_eq_getElem _
  obtain ⟨u, hu, _⟩ := g i hi j _ hjl
  exact ⟨u, hu⟩)
 exact ⟨l, hl, hq⟩
set_option maxRecDepth 100000 in
theorem open_events {v : Value} {d : DataW H} {p : List MemPlace} (hv : Value.okWide Tryz.prog w .any base 30 v) (h : DataW.Trod enc Tryz.prog w 0 sp held 30 v d p) :
  ∃ a n c, v = .slice a n c ∧ n ≤ c ∧ c ≤ maxLen ∧ ∃ l, EvsAt (memW w) a n l := by
 obtain ⟨a, len, cap, rfl⟩ := Go.WideShapes.okWide_slice Tryz.underlying30 hv
 obtain ⟨fuel, hf⟩ := h
 obtain ⟨u, hu, hk⟩ := (lfs_ok _ _ _ lfs_evs _ _ _ hf).2 0 _ rfl
 simp [Value.cells] at hu
 subst hu
 exact evs_of hk
set_option maxRecDepth 100000 in
theorem open_cfg {v : Value} {d : DataW H} {p : List MemPlace} (hv : Value.okWide Tryz.prog w .any base 29 v) (h : DataW.Trod enc Tryz.prog w 0 sp held 29 v d p) :
  ∃ (x0 x1 x2 x3 x4 x5 x6 : Int) (a : Option Addr) (n c : Nat), v = .agg #[.int .i64 x0, .int .i64 x1, .int .i64 x2, .int .i64 x3, .int .u64 x4, .int .i64 x5, .int .i64 x6, .slice a n c] ∧
   (K.i64 x0 ∧ K.i64 x1 ∧ K.i64 x2 ∧ K.i64 x3 ∧ (IntKind.u64.min ≤ x4 ∧ x4 ≤ IntKind.u64.max) ∧ K.i64 x5 ∧ K.i64 x6) ∧ n ≤ c ∧ c ≤ maxLen ∧ ∃ L, JobsAt (memW w) a n L := by
 obtain ⟨cs, rfl, hsz⟩ := Go.WideShapes.okWide_struct Tryz.underlying29 hv
 obtain ⟨fuel, hf⟩ := h
 obtain ⟨hl, hg⟩ := lfs_ok _ _ _ lfs_cfg _ _ _ hf
 have one : ∀ j : Nat, cfgL[j]? = some (.i .i64) → ∃ x, cs.toList[j]? = some (.int .i64 x) ∧ K.i64 x := fun j hj => by
  obtain ⟨u, hu, x, rfl, hw⟩ := hg j _ hj
  have h2 : IntKind.i64.min ≤ x ∧ x ≤ IntKind.i64.max := by simpa [Lit.wf] using hw
  exact ⟨x, hu, h2⟩
 obtain ⟨x0, a0, k0⟩ := one 0 rfl
 obtain ⟨x1, a1, k1⟩ := one 1 rfl
 obtain ⟨x2, a2, k2⟩ := one 2 rfl
 obtain ⟨x3, a3, k3⟩ := one 3 rfl
 obtain ⟨_, a4, x4, rfl, k4⟩ := hg 4 _ rfl
 obtain ⟨x5, a5, k5⟩ := one 5 rfl
 obtain ⟨x6, a6, k6⟩ := one 6 rfl
 obtain ⟨_, a7, hk⟩ := hg 7 _ rfl
 obtain ⟨a, n, c, rfl, h1, h2, h3⟩ := jobs_of hk
 refine ⟨x0, x1, x2, x3, x4, x5, x6, a, n, c, ?_, ⟨k0, k1, k2, k3, by simpa [Lit.wf] using k4, k5, k6⟩, h1, h2, h3⟩
 congr 1
 apply Array.ext'
 have hl' : cs.toList.length = 8 := hl
 simp only [Value.cells] at a4 a7
 generalize cs.toList = l at *
 obtain ⟨c0, c1, c2, c3, c4, c5, c6, c7, rfl⟩ : ∃ c0 c1 c2 c3 c4 c5 c6 c7, l = [c0, c1, c2, c3, c4, c5, c6, c7] := by
  match l, hl' with
  | [c0, c1, c2, c3, c4, c5, c6, c7], _ => exact ⟨c0, c1, c2, c3, c4, c5, c6, c7, rfl⟩
 simp at a0 a1 a2 a3 a4 a5 a6 a7
 simp [a0, a1, a2, a3, a4, a5, a6, a7]
end
end Go.Proofs.YtmpbddmbpeoehaaGreatDoor.VRow
