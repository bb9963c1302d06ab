/-
  The engine is sound, 13: one operation, a row of operations.
-/
import Derived.Test.YtfpfagmmdiohbaaGreatDoorEvS12
import Derived.Test.YtfpfagmmdiohbaaGreatDoorEvRun
import Derived.RangeFuncLeaves
set_option linter.unusedVariables false
set_option linter.unusedSimpArgs false
namespace Go.Proofs.YtfpfagmmdiohbaaGreatDoor.Ev
open Go.RowKit

def FOk (F : Fence) : Prop := (∀ f, F.fn f) ∧ F.depth = none
def exOf : Ex → Exit
  | .normal => .normal
  | .exit id => .exit id
  | .goto l => .goto l
  | .ret => .ret
def LvOk (V : Env) (lv : Lv) : Prop := ∀ i c, lvGet lv i = some c → V.L i = some c
theorem LvOk.mono {V V' : Env} {lv : Lv} (h : LvOk V lv) (k : Ext V V') : LvOk V' lv := fun i c hi => k.L i c (h i c hi)
def RdOk (V : Env) (F : Fence) : Option Nat → Prop
  | none => F.round = none
  | some l => ∃ p, V.E l = some p ∧ F.round = some p.1
theorem RdOk.mono {V V' : Env} {F : Fence} {rd : Option Nat} (h : RdOk V F rd) (k : Ext V V') : RdOk V' F rd := by
  cases rd with
  | none => exact h
  | some l => obtain ⟨p, h1, h2⟩ := h; exact ⟨p, k.E _ _ h1, h2⟩

def CPost (P : Program) (V : Env) (B : World) (e : Ex) (a : A) (s : S) : Exit → Act → World → Prop :=
  fun ex A w => ex = exOf e ∧ ∃ V', Ext V V' ∧ Rel P V' s B w ∧ ARel V' a A
def VPost (P : Program) (V : Env) (B : World) (v : AV) (s : S) : Ending → World → Prop :=
  fun en w => ∃ V' x, Ext V V' ∧ Rel P V' s B w ∧ v.conc V' = some x ∧ en = .returned x

/-- What is known of the evaluator one step below. -/
structure IhOk (P : Program) (g : G) (ih : Ih) : Prop where
  code : ∀ {V : Env} {F : Fence} {n : Nat} {B w : World} {lv : Lv} {rd : Option Nat} {c : Code} {a a' : A} {A : Act} {s s' : S} {e : Ex}, GOk P g V.σ → FOk F → LvOk V lv → RdOk V F rd → Rel P V s B w → ARel V a A →
    ih (.code lv rd c a) s = .code e a' s' → c.wpIn F n P (CPost P V B e a' s') A w
  call : ∀ {V : Env} {F : Fence} {n : Nat} {B w : World} {lv : Lv} {f : FuncId} {args : List AV} {xs : List Value} {v : AV} {s s' : S}, GOk P g V.σ → FOk F → LvOk V lv → Rel P V s B w → concL V args = some xs →
    ih (.call lv f args) s = .val v s' → CallsIn F n P f xs.toArray w (VPost P V B v s')
  yield : ∀ {V : Env} {F : Fence} {n : Nat} {B w : World} {lv : Lv} {l : Nat} {p : Nat × Nat} {args : List AV} {xs : List Value} {v : AV} {s s' : S}, GOk P g V.σ → FOk F → LvOk V lv → Rel P V s B w → V.E l = some p → concL V args = some xs →
    ih (.yield lv l args) s = .val v s' → ∃ fn tmps assign body, (Instr.yield p.1 xs.toArray).run P w = .ok (.round p.1 fn tmps assign body) w ∧ RoundIn F n P p.1 fn tmps assign body w (VPost P V B v s')

section
variable {P : Program} {g : G} {V : Env} {s s' : S} {B w : World} {a a' : A} {A : Act} {F : Fence} {n : Nat} {ops : Array Oper} {Q : Exit → Act → World → Prop}

theorem Ext.σ_eq {V V' : Env} (h : Ext V V') (hG : GOk P g V.σ) : GOk P g V'.σ := by rw [h.σ]; exact hG

theorem conc_bool {V : Env} {v : AV} {b : Bool} (h : v.conc V = some (.bool b)) (ho : ∀ i, v ≠ .opq i) : v = .bool b := by
  cases v <;> simp only [AV.conc] at h <;> first
    | (cases h; rfl)
    | (split at h <;> cases h)
    | (exact (ho _ rfl).elim)
    | (cases h)

theorem wanted_ok {o : Oper} {b : Bool} (hA : ARel V a A) (h : wantedA ops.toList a o = some b) : Region.wanted o (yielded ops A.tmps) = b := by
  unfold wantedA at h
  unfold Region.wanted
  cases hg : o.guard with
  | none => rw [hg] at h; simp at h ⊢; exact h
  | some jw =>
    obtain ⟨j, want⟩ := jw
    rw [hg] at h
    simp only [lget_eq, Array.getElem?_toList] at h
    show (yielded ops A.tmps j == some want) = b
    cases hj : ops[j]? with
    | none => rw [hj] at h; cases h
    | some oj =>
      rw [hj] at h; simp only at h
      cases hd : oj.dst with
      | none => rw [hd] at h; cases h
      | some d =>
        rw [hd] at h; simp only at h
        have hc : (a.get d).conc V = some (A.tmps.getD d undef) := hA.get d
        have hy : yielded ops A.tmps j = (match A.tmps[d]? with | some (.bool b) => some b | _ => none) := by
          unfold yielded; rw [hj]; simp only [Option.bind_some, hd]; rfl
        rw [hy]
        split at h
        · rename_i b' hb
          cases h
          rw [hb] at hc
          simp only [AV.conc, Option.some.injEq] at hc
          have : A.tmps[d]? = some (.bool b') := by
            cases ht : A.tmps[d]? with
            | none => simp [Array.getD_eq_getD_getElem?, ht, undef] at hc
            | some x => simp [Array.getD_eq_getD_getElem?, ht] at hc; rw [hc]
          rw [this]
          cases b' <;> cases want <;> rfl
        · cases h
        · rename_i nb no
          cases h
          cases ht : A.tmps[d]? with
          | none => rfl
          | some x =>
            have hx : A.tmps.getD d undef = x := by simp [Array.getD_eq_getD_getElem?, ht]
            rw [hx] at hc
            cases x with
            | bool b' => exact (nb b' (conc_bool hc (fun i e => no i e))).elim
            | _ => rfl

theorem not_defer {o : Oper} {r : OpR} (h : opA g a s o = r) (hr : ∀ n, r ≠ .err n) : ∀ c, o.op ≠ .defer c := by
  intro c hc
  obtain ⟨dst, op, type, pos, after, guard⟩ := o
  simp only at hc
  subst hc
  exact hr 99 (by rw [← h]; rfl)

theorem depth_ok (hF : FOk F) : F.depth.isSome = true → 1 ≤ n := fun h => by rw [hF.2] at h; simp at h

theorem doOp_ok {ih : Ih} {lv : Lv} (hI : IhOk P g ih) (hG : GOk P g V.σ) (hF : FOk F) (hL : LvOk V lv) (hR : Rel P V s B w) (hA : ARel V a A) {i : Nat} {o : Oper} (ho : ops[i]? = some o) (h : doOp ih lv g ops.toList o a s = .ok a' s') {K : Act → World → Prop}
    (hK : ∀ V' A' w', Ext V V' → Rel P V' s' B w' → ARel V' a' A' → K A' w') : wpOpIn F n P ops Q i K A w := by
  have ab : ∀ f, o.about P w A.eval = some f → F.fn f := fun f _ => hF.1 f
  have put : ∀ {v : AV} {s1 : S}, putR a o v s1 = .ok a' s' → s1 = s' ∧ a.put o.dst v = some a' := by
    intro v s1 h
    unfold putR at h
    split at h
    · rename_i a1 h1; cases h; exact ⟨rfl, h1⟩
    · cases h
  unfold doOp at h
  unfold wpOpIn
  simp only [ho]
  split at h
  · cases h
  · rename_i hw
    rw [wanted_ok hA hw]
    simp only [Bool.false_eq_true, if_false]
    obtain ⟨rfl, h1⟩ := put h
    exact ⟨ab, hK V _ w (Ext.refl V) hR (hA.put h1 rfl)⟩
  · rename_i hw
    rw [wanted_ok hA hw]
    simp only [if_true]
    have hop := opA_ok hG hR hA o
    cases hr : opA g a s o with
    | err k => rw [hr] at h; cases h
    | val v s1 =>
      rw [hr] at h hop; simp only at h
      obtain ⟨rfl, h1⟩ := put h
      obtain ⟨V', x, w', k1, k2, k3, k4⟩ := hop
      refine ⟨ab, ?_⟩
      rw [Oper.semAt_eq _ _ _ (not_defer hr (by simp))]
      have hA' := (hA.mono k1).put h1 k3
      rcases k4 with k4 | ⟨k4, rfl⟩
      · rw [k4]; exact hK V' _ w' k1 k2 hA'
      · rw [k4]; exact hK V' _ w' k1 k2 hA'
    | enter f args =>
      rw [hr] at h hop; simp only at h
      obtain ⟨_, xs, k1, k2⟩ := hop
      split at h
      · rename_i v s1 hv
        obtain ⟨rfl, h1⟩ := put h
        refine ⟨ab, ?_⟩
        rw [Oper.semAt_eq _ _ _ (not_defer hr (by simp)), k2]
        refine ⟨depth_ok hF, (hI.call hG hF hL hR k1 hv).mono ?_⟩
        rintro e w' ⟨V', x, m1, m2, m3, rfl⟩
        exact hK V' _ w' m1 m2 ((hA.mono m1).put h1 m3)
      · cases h
      · cases h
    | yield l args =>
      rw [hr] at h hop; simp only at h
      obtain ⟨p, xs, k0, k1, k2⟩ := hop
      split at h
      · rename_i v s1 hv
        obtain ⟨rfl, h1⟩ := put h
        refine ⟨ab, ?_⟩
        rw [Oper.semAt_eq _ _ _ (not_defer hr (by simp)), k2]
        obtain ⟨fn, tmps, assign, body, r1, r2⟩ := hI.yield (F := F) (n := n - 1) hG hF hL hR k0 k1 hv
        rw [r1]
        refine ⟨depth_ok hF, r2.mono ?_⟩
        rintro e w' ⟨V', x, m1, m2, m3, rfl⟩
        exact hK V' _ w' m1 m2 ((hA.mono m1).put h1 m3)
      · cases h
      · cases h

theorem runOps_ok {ih : Ih} {lv : Lv} (hI : IhOk P g ih) (hF : FOk F) : ∀ (l : List Oper) (k : Nat) (V : Env) (a : Ev.A) (s : S) (A : Act) (w : World) (e : Ex) (a' : Ev.A) (s' : S), GOk P g V.σ → LvOk V lv → Rel P V s B w → ARel V a A → l = ops.toList.drop k →
    runOps ih lv g ops.toList l a s = .code e a' s' → (∀ V' A' w', Ext V V' → Rel P V' s' B w' → ARel V' a' A' → Q (exOf e) A' w') → wpOpsIn F n P ops Q (List.range' k l.length) A w := by
  intro l
  induction l with
  | nil =>
    intro k V a s A w e a' s' hG hL hR hA _ h hQ
    simp only [runOps] at h; cases h
    exact hQ V A w (Ext.refl V) hR hA
  | cons o l ihl =>
    intro k V a s A w e a' s' hG hL hR hA hl h hQ
    have ho : ops[k]? = some o := by
      have := congrArg (fun m => m[0]?) hl
      simp at this; exact this.symm
    have hl' : l = ops.toList.drop (k + 1) := by
      have := congrArg List.tail hl
      simpa [List.tail_drop] using this
    simp only [runOps] at h
    split at h
    · rename_i a1 s1 h1
      simp only [List.length_cons, List.range'_succ]
      rw [wpOpsIn_cons]
      refine doOp_ok hI hG hF hL hR hA ho h1 (fun V' A' w' k1 k2 k3 => ?_)
      exact ihl (k + 1) V' a1 s1 A' w' e a' s' (k1.σ_eq hG) (hL.mono k1) k2 k3 hl' h (fun V2 A2 w2 q1 q2 q3 => hQ V2 A2 w2 (k1.trans q1) q2 q3)
    · cases h
end
end Go.Proofs.YtfpfagmmdiohbaaGreatDoor.Ev
