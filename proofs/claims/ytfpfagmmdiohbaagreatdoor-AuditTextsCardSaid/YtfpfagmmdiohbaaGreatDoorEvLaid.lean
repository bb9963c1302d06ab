/-
  What the laid table of mix holds.
-/
import Derived.Test.YtfpfagmmdiohbaaGreatDoorEvTab
import Derived.Test.YtfpfagmmdiohbaaGreatDoorCards
import Derived.Test.YtfpfagmmdiohbaaGreatDoorTie
import Derived.WalkKit
import Derived.ProofKit
import Derived.OpenShut
import Derived.Lib.LaidTab
import Derived.Lib.LaidU8
import Derived.ChangeArms
import Derived.Lay
import Derived.LaidMore
set_option linter.unusedVariables false
set_option linter.unusedSimpArgs false
namespace Go.Proofs.YtfpfagmmdiohbaaGreatDoor.Ev
open Go.ChangeShapes Go.WideShapes Go.ChangeAt Go.RowKit

theorem trod_lit {fuel : Nat} {W : World} {t : TypeId} {k k' : IntKind} {z : Int} {cs : List Value} {p : List MemPlace} (ht : Tryz.prog.underlying t = some (.int k'))
    (h : DataW.trod (fun _ => ()) Tryz.prog W 0 (fun _ => true) false fuel t cs = some (.lit (.int k z), p)) : cs = [.int k z] := by
  obtain ⟨n, h1, h2, _⟩ := DataW.trod_int ht h
  cases h2; exact h1

set_option maxRecDepth 100000 in
theorem trod_step {fuel : Nat} {W : World} {a b : Int} {cs : List Value} {p : List MemPlace}
    (h : DataW.trod (fun _ => ()) Tryz.prog W 0 (fun _ => true) false fuel 293 cs = some (.agg [.lit (.int .i64 a), .lit (.int .u64 b)], p)) : cs = [.int .i64 a, .int .u64 b] := by
  cases fuel with
  | zero => simp [DataW.trod] at h
  | succ fuel =>
    have hct : Tryz.prog.cellsOf 293 = 2 := by kernel_rfl
    have hc0 : Tryz.prog.cellsOf 3 = 1 := by kernel_rfl
    have hc1 : Tryz.prog.cellsOf 22 = 1 := by kernel_rfl
    simp only [DataW.trod, Tryz.underlying293, hct] at h
    split at h
    · rename_i hl
      obtain ⟨c0, c1, rfl⟩ : ∃ c0 c1, cs = [c0, c1] := by
        match cs, hl with
        | [c0, c1], _ => exact ⟨c0, c1, rfl⟩
      simp only [List.mapM_cons, List.mapM_nil, hc0, hc1, List.drop_zero, List.drop_succ_cons, List.take_succ_cons, List.take_zero, List.take_nil, List.drop_nil] at h
      obtain ⟨xs, hx, he⟩ := Option.map_eq_some_iff.1 h
      simp only [Option.bind_eq_bind, Option.bind_eq_some_iff, Option.pure_def, Option.some.injEq] at hx
      obtain ⟨y0, h0, r0, ⟨y1, h1, r1, rfl, rfl⟩, rfl⟩ := hx
      simp at he
      obtain ⟨⟨e0, e1⟩, _⟩ := he
      have k0 := trod_lit Tryz.underlying3 (h0.trans (by rw [← e0]))
      have k1 := trod_lit Tryz.underlying22 (h1.trans (by rw [← e1]))
      cases k0; cases k1; rfl
    · cases h

set_option maxRecDepth 100000 in
theorem trod_steps {fuel : Nat} {W : World} {cs : List Value} {p : List MemPlace}
    (h : DataW.trod (fun _ => ()) Tryz.prog W 0 (fun _ => true) false fuel 294 cs = some (Rows.laid_wakeman_mix_steps, p)) :
    cs = [.int .i64 30, .int .u64 13787848793156543929, .int .i64 27, .int .u64 10723151780598845931, .int .i64 31, .int .u64 1] := by
  cases fuel with
  | zero => simp [DataW.trod] at h
  | succ fuel =>
    have hct : Tryz.prog.cellsOf 294 = 6 := by kernel_rfl
    have hc0 : Tryz.prog.cellsOf 293 = 2 := by kernel_rfl
    simp only [DataW.trod, Tryz.underlying294, hct, hc0] at h
    split at h
    · rename_i hl
      obtain ⟨c0, c1, c2, c3, c4, c5, rfl⟩ : ∃ c0 c1 c2 c3 c4 c5, cs = [c0, c1, c2, c3, c4, c5] := by
        match cs, hl with
        | [c0, c1, c2, c3, c4, c5], _ => exact ⟨c0, c1, c2, c3, c4, c5, rfl⟩
      have hr : List.range 3 = [0, 1, 2] := by decide
      obtain ⟨xs, hx, he⟩ := Option.map_eq_some_iff.1 h
      rw [hr] at hx
      simp only [List.mapM_cons, List.mapM_nil, Option.bind_eq_bind, Option.bind_eq_some_iff, Option.pure_def, Option.some.injEq] at hx
      obtain ⟨y0, h0, r0, ⟨y1, h1, r1, ⟨y2, h2, r2, rfl, rfl⟩, rfl⟩, rfl⟩ := hx
      simp only [Rows.laid_wakeman_mix_steps, List.map_cons, List.map_nil, Prod.mk.injEq, DataW.agg.injEq, List.cons.injEq, and_true] at he
      obtain ⟨⟨e0, e1, e2⟩, _⟩ := he
      have k0 := trod_step (h0.trans (by rw [← e0]))
      have k1 := trod_step (h1.trans (by rw [← e1]))
      have k2 := trod_step (h2.trans (by rw [← e2]))
      simp at k0 k1 k2
      obtain ⟨rfl, rfl⟩ := k0
      obtain ⟨rfl, rfl⟩ := k1
      obtain ⟨rfl, rfl⟩ := k2
      rfl
    · cases h

/-- What the walks ask of the laid tables. -/
structure TabV (w : World) : Prop where
  steps : ∃ e fz, w.heap[6]? = some (.cells #[.int .i64 30, .int .u64 13787848793156543929, .int .i64 27, .int .u64 10723151780598845931, .int .i64 31, .int .u64 1] e fz)

theorem named_steps : Tryz.prog.globalNamed "wakeman/mix.steps" = some 6 := by kernel_rfl
theorem types_steps : (Tryz.prog.globals[6]?).map (·.type) = some 294 := by kernel_rfl

theorem steps_of {W : World} (h : Lib.VarReads Tryz.prog W "wakeman/mix.steps" Rows.laid_wakeman_mix_steps) : TabV W := by
  obtain ⟨g', t', cs, fuel, p, hg', ht', hvar, hd⟩ := h
  obtain rfl := Option.some.inj (named_steps.symm.trans hg')
  obtain rfl := Option.some.inj (types_steps.symm.trans ht')
  have hcs := trod_steps hd
  unfold World.var? at hvar
  rw [named_steps] at hvar
  simp only [Option.bind_some] at hvar
  split at hvar
  · rename_i cs' e fz hb
    cases hvar
    refine ⟨e, fz, ?_⟩
    rw [hb]
    congr 2
    apply Array.ext'
    rw [hcs]
  · cases hvar

theorem TabV.grow {w w' : World} (h : TabV w) (hb : Below w.heap.size w w') : TabV w' := by
  obtain ⟨e, fz, h1⟩ := h.steps
  exact ⟨e, fz, (hb.block _ (Array.getElem?_eq_some_iff.1 h1).1).trans h1⟩

/-! ### The start of a run -/
def i64 (n : Int) : AV := .int .i64 (.lit n)
def u64 (n : Int) : AV := .int .u64 (.lit n)
def s0 : S := { heap := Tr.set 64 .e 13 (.ro [i64 30, u64 13787848793156543929, i64 27, u64 10723151780598845931, i64 31, u64 1]), next := 1000 }
def V0 (σ : Nat → Int) : Env := { σ := σ, τ := fun _ => .nilIface, E := fun j => if j = 13 then some (6, 0) else none, L := fun _ => none }

theorem start (σ : Nat → Int) {w : World} (hT : TabV w) : Rel Tryz.prog (V0 σ) s0 w w := by
  obtain ⟨e, fz, h1⟩ := hT.steps
  have hg : ∀ j, s0.heap.get j = if j = 13 then some (.ro [i64 30, u64 13787848793156543929, i64 27, u64 10723151780598845931, i64 31, u64 1]) else none := by
    intro j
    have := Tr.get_set64 (.e : Tr Blk) 13 (.ro [i64 30, u64 13787848793156543929, i64 27, u64 10723151780598845931, i64 31, u64 1]) j (by decide)
    rw [show s0.heap = Tr.set 64 .e 13 (.ro [i64 30, u64 13787848793156543929, i64 27, u64 10723151780598845931, i64 31, u64 1]) from rfl, this]
    rfl
  have hlt : 6 < w.heap.size := (Array.getElem?_eq_some_iff.1 h1).1
  refine ⟨(fun i cs h => by cases h), Below.refl _ _, fun id b hb => ?_, fun id p hp => ?_, (fun id c hc => by cases hc), fun id id' b b' p p' hb hb' ho ho' => ?_, fun g p hp => ?_⟩
  · rw [hg] at hb
    by_cases hj : id = 13
    · rw [if_pos hj] at hb; cases hb
      refine ⟨(6, 0), (by show (if id = 13 then _ else _) = _; rw [if_pos hj]), ?_, (fun h => by cases h), fun _ => hlt⟩
      refine ⟨[.int .i64 30, .int .u64 13787848793156543929, .int .i64 27, .int .u64 10723151780598845931, .int .i64 31, .int .u64 1], [], e, fz, rfl, ?_⟩
      exact h1
    · rw [if_neg hj] at hb; cases hb
  · have hp' : (if id = 13 then some (6, 0) else none) = some p := hp
    by_cases hj : id = 13
    · rw [hg, if_pos hj]; exact ⟨_, rfl⟩
    · rw [if_neg hj] at hp'; cases hp'
  · rw [hg] at hb
    by_cases hj : id = 13
    · rw [if_pos hj] at hb; cases hb; cases ho
    · rw [if_neg hj] at hb; cases hb
  · have hp' : (if 2 * g + 1 = 13 then some (6, 0) else none) = some p := hp
    by_cases hj : 2 * g + 1 = 13
    · rw [if_pos hj] at hp'; cases hp'; show 6 = g; omega
    · rw [if_neg hj] at hp'; cases hp'

/-- The evaluator has come to the value true. -/
def isTrue : Out → Bool
  | .val (.bool b) _ => b
  | _ => false

/-- **A call that the evaluator has run to the value true.** -/
theorem ev_true {K : Know} {σ : Nat → Int} {fuel : Nat} {f : FuncId} {args : List AV} {xs : List Value} (hK : KnowOk K σ) {w : World} (hT : TabV w) (hx : concL (V0 σ) args = some xs) (h : isTrue (ev (tabK K) fuel (.call [] f args) s0) = true) :
    Calls Tryz.prog f xs.toArray w fun e w' => e = .returned (.bool true) ∧ Below w.heap.size w w' := by
  cases hr : ev (tabK K) fuel (.call [] f args) s0 with
  | val v s' =>
    rw [hr] at h
    have hv : v = .bool true := by
      unfold isTrue at h
      split at h
      · rename_i b s2 e; cases e; rw [h]
      · cases h
    subst hv
    refine (ev_calls (V := V0 σ) (tab_ok hK) (start σ hT) hx hr).mono ?_
    rintro e w' ⟨V', x, h1, h2, h3, rfl⟩
    simp only [AV.conc, Option.some.injEq] at h3
    subst h3
    exact ⟨rfl, h2.below⟩
  | code e a s' => rw [hr] at h; cases h
  | err n => rw [hr] at h; cases h
end Go.Proofs.YtfpfagmmdiohbaaGreatDoor.Ev
