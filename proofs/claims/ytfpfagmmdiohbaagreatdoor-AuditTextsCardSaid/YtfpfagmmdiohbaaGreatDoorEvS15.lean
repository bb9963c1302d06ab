/-
  The engine is sound, 15: regions that draw their order.
-/
import Derived.Test.YtfpfagmmdiohbaaGreatDoorEvS14
set_option linter.unusedVariables false
set_option linter.unusedSimpArgs false
namespace Go.Proofs.YtfpfagmmdiohbaaGreatDoor.Ev
open Go.RowKit

/-- The held cells of the evaluator, concretely. -/
def HRel (V : Env) : Held → CH → Prop
  | [], [] => True
  | (i, id, off, v) :: h, (j, p, x) :: ch => i = j ∧ (∃ q, V.E id = some q ∧ p = ⟨q.1, off, none⟩) ∧ v.conc V = some x ∧ HRel V h ch
  | _, _ => False

theorem HRel.mono {V V' : Env} (k : Ext V V') : ∀ {h : Held} {ch : CH}, HRel V h ch → HRel V' h ch := by
  intro h
  induction h with
  | nil => intro ch hh; cases ch <;> first | trivial | exact hh.elim
  | cons c h ih =>
    intro ch hh
    obtain ⟨i, id, off, v⟩ := c
    cases ch with
    | nil => exact hh.elim
    | cons d ch =>
      obtain ⟨j, p, x⟩ := d
      obtain ⟨h1, ⟨q, h2, h3⟩, h4, h5⟩ := hh
      exact ⟨h1, ⟨q, k.E _ _ h2, h3⟩, conc_mono k _ _ h4, ih h5⟩
theorem HRel.drop {V : Env} (es : List Edge) : ∀ {h : Held} {ch : CH}, HRel V h ch → HRel V (heldDrop es h) (chDrop es ch) := by
  intro h
  induction h with
  | nil => intro ch hh; cases ch <;> first | trivial | exact hh.elim
  | cons c h ih =>
    intro ch hh
    obtain ⟨i, id, off, v⟩ := c
    cases ch with
    | nil => exact hh.elim
    | cons d ch =>
      obtain ⟨j, p, x⟩ := d
      obtain ⟨rfl, h2, h4, h5⟩ := hh
      simp only [heldDrop, chDrop]
      cases edgeOn i es with
      | true => exact ih h5
      | false => exact ⟨rfl, h2, h4, ih h5⟩
theorem HRel.app {V : Env} : ∀ {h h' : Held} {ch ch' : CH}, HRel V h ch → HRel V h' ch' → HRel V (h ++ h') (ch ++ ch') := by
  intro h
  induction h with
  | nil => intro h' ch ch' hh hh'; cases ch <;> first | exact hh' | exact hh.elim
  | cons c h ih =>
    intro h' ch ch' hh hh'
    obtain ⟨i, id, off, v⟩ := c
    cases ch with
    | nil => exact hh.elim
    | cons d ch =>
      obtain ⟨j, p, x⟩ := d
      exact ⟨hh.1, hh.2.1, hh.2.2.1, ih hh.2.2.2 hh'⟩

section
variable {P : Program} {g : G} {F : Fence} {n : Nat} {ops : Array Oper} {Q : Exit → Act → World → Prop}

theorem heldOk_SH {V : Env} {s : S} {B w : World} (hR : Rel P V s B w) : ∀ {h : Held} {ch : CH}, HRel V h ch → heldOk s h = true → SH ch w := by
  intro h
  induction h with
  | nil =>
    intro ch hh _
    cases ch with
    | nil => intro i p x hx; cases hx
    | cons d ch => exact hh.elim
  | cons c h ih =>
    intro ch hh hk
    obtain ⟨i, id, off, v⟩ := c
    cases ch with
    | nil => exact hh.elim
    | cons d ch =>
      obtain ⟨j, p, x⟩ := d
      obtain ⟨rfl, ⟨q, h2, h3⟩, h4, h5⟩ := hh
      simp only [heldOk, Bool.and_eq_true] at hk
      intro i' p' x' hx
      cases hx with
      | head =>
        have hk1 := hk.1
        split at hk1
        · rename_i u hu
          have := eqb_eq _ _ hk1
          subst this
          obtain ⟨vs, e1, e2, e3⟩ := loadC_ok hR hu h2
          obtain ⟨y, r, rfl, hy, _⟩ := concL_cons e1
          rw [h4] at hy; cases hy
          have := e3 0 x (by simp)
          rw [h3]; simpa using this
        · cases hk1
      | tail _ hx => exact ih h5 hk.2 i' p' x' hx

theorem heldOf_rel {V : Env} {i id : Nat} {q : Nat × Nat} (hq : V.E id = some q) : ∀ {l : List AV} {vs : List Value} (off : Nat), concL V l = some vs →
    HRel V (heldOf i id off l) ((List.range' off vs.length).zip vs |>.map fun (o, x) => (i, (⟨q.1, o, none⟩ : Addr), x)) := by
  intro l
  induction l with
  | nil => intro vs off h; cases h; trivial
  | cons y ys ih =>
    intro vs off h
    obtain ⟨v, r, rfl, hv, hr⟩ := concL_cons h
    simp only [heldOf, List.length_cons, List.range'_succ, List.zip_cons_cons, List.map_cons]
    exact ⟨rfl, ⟨q, hq, rfl⟩, hv, ih (off + 1) hr⟩

theorem indexed_get {α : Type} : ∀ (l : List α) (k j : Nat) (x : α), (j, x) ∈ indexed k l ↔ k ≤ j ∧ l[j - k]? = some x := by
  intro l
  induction l with
  | nil => intro k j x; simp [indexed]
  | cons y ys ih =>
    intro k j x
    simp only [indexed, List.mem_cons, Prod.mk.injEq, ih]
    constructor
    · rintro (⟨rfl, rfl⟩ | ⟨h1, h2⟩)
      · simp
      · have h1' : k + 1 ≤ j := h1
        refine ⟨by omega, ?_⟩
        rw [show j - k = (j - (k + 1)) + 1 by omega]; simpa using h2
    · rintro ⟨h1, h2⟩
      by_cases hjk : j = k
      · subst hjk; simp at h2; exact .inl ⟨rfl, h2.symm⟩
      · right
        have h1' : k + 1 ≤ j := by omega
        refine ⟨h1', ?_⟩
        rw [show j - k = (j - (k + 1)) + 1 by omega] at h2; simpa using h2

theorem quiet_ok {V : Env} {s : S} {B w : World} {a : A} {A : Act} (hG : GOk P g V.σ) (hR : Rel P V s B w) (hA : ARel V a A) {i : Nat} {o : Oper} {v : AV} {h : Held} (hq : quietA g ops.toList a s i o = some (v, h)) :
    ∃ x chi, v.conc V = some x ∧ HRel V h chi ∧ SH chi w ∧ (∀ y ∈ chi, y.1 = i) ∧ YieldsW P ops chi o x A := by
  have noS : SH ([] : CH) w := by intro i p x h; cases h
  have noI : ∀ y ∈ ([] : CH), y.1 = i := by intro y h; cases h
  unfold quietA at hq
  split at hq
  · cases hq
  · rename_i hw
    cases hq
    exact ⟨undef, [], rfl, trivial, noS, noI, .inr ⟨wanted_ok hA hw, rfl⟩⟩
  · rename_i hw
    have hw' := wanted_ok hA hw
    split at hq
    · rename_i t x hop
      split at hq
      · rename_i id off hx
        split at hq
        · rename_i ti hti
          obtain ⟨p, hp, e⟩ := conc_ptr (evO_ok hA hR.globOk hx)
          have hT := hG.ty _ _ hti
          split at hq
          · rename_i l hl
            obtain ⟨vs, e1, e2, e3⟩ := loadC_ok hR hl hp
            have hS : SH ((List.range' off vs.length).zip vs |>.map fun (o, x) => (i, (⟨p.1, o, none⟩ : Addr), x)) w := by
              intro i' p' x' hm
              simp only [List.mem_map] at hm
              obtain ⟨⟨o', y⟩, hm1, hm2⟩ := hm
              cases hm2
              obtain ⟨j, hj⟩ := List.getElem?_of_mem hm1
              rw [List.getElem?_zip_eq_some] at hj
              obtain ⟨j1, j2⟩ := hj
              have hjl : j < vs.length := (List.getElem?_eq_some_iff.1 j2).1
              have ho' : o' = off + j := by
                rw [List.getElem?_range' hjl] at j1
                have := Option.some.inj j1; omega
              subst ho'
              exact e3 j _ j2
            have hI : ∀ y ∈ ((List.range' off vs.length).zip vs |>.map fun (o, x) => (i, (⟨p.1, o, none⟩ : Addr), x)), y.1 = i := by
              intro y hy
              simp only [List.mem_map] at hy
              obtain ⟨⟨o', z⟩, _, rfl⟩ := hy
              rfl
            have hcell : ∀ w', SH ((List.range' off vs.length).zip vs |>.map fun (o, x) => (i, (⟨p.1, o, none⟩ : Addr), x)) w' → ∀ j y, vs[j]? = some y → w'.cell? ⟨p.1, off + j, none⟩ = some y := by
              intro w' hs j y hy
              have hjl : j < vs.length := (List.getElem?_eq_some_iff.1 hy).1
              refine hs i ⟨p.1, off + j, none⟩ y ?_
              simp only [List.mem_map]
              refine ⟨(off + j, y), ?_, rfl⟩
              refine List.mem_of_getElem? (i := j) ?_
              rw [List.getElem?_zip_eq_some]
              exact ⟨by rw [List.getElem?_range' hjl]; simp, hy⟩
            have fin : ∀ {X : Value} {w' : World}, (loadVar t ⟨p.1, off, none⟩).run P w' = .ok X w' → (execOp A.eval o).run P w' = .ok (.value X) w' := by
              intro X w' hld
              obtain ⟨dst, op, type, pos, after, guard⟩ := o
              simp only at hop
              subst hop
              simp only [execOp, Sem.run_bind, Instr.loadAt, e, Instr.sureAddr, Sem.run_pure, Result.andThen_ok, hld]
            cases c : isAggD ti.desc with
            | true =>
              rw [c] at hq e2; simp only [cond_true] at hq e2; cases hq
              refine ⟨_, _, agg_mk e1, heldOf_rel hp off e1, hS, hI, .inl ⟨hw', fun w' hs => fin ?_⟩⟩
              simp only [loadVar, Sem.run_bind, run_isAgg' hT, Result.andThen_ok, c, if_true, run_sizeOf' hT, ← e2]
              rw [run_loadCells_list w' ⟨p.1, off, none⟩ vs (fun j y hy => by rw [add_at]; exact hcell w' hs j y hy)]
              rfl
            | false =>
              rw [c] at hq e2; simp only [cond_false] at hq e2
              split at hq
              · rename_i v0
                cases hq
                obtain ⟨z, r, rfl, hz, hr⟩ := concL_cons e1
                refine ⟨z, _, hz, heldOf_rel hp off e1, hS, hI, .inl ⟨hw', fun w' hs => fin ?_⟩⟩
                have := hcell w' hs 0 z (by simp)
                rw [Nat.add_zero] at this
                simp only [loadVar, Sem.run_bind, run_isAgg' hT, Result.andThen_ok, c, Bool.false_eq_true, if_false, run_load, this]
              · cases hq
          · cases hq
        · cases hq
      · cases hq
    · split at hq
      · rename_i v0 hv; cases hq
        obtain ⟨x, h1, h2⟩ := pureA_ok hG hR.τ hA hR.globOk hv
        exact ⟨x, [], h1, trivial, noS, noI, .inl ⟨hw', fun w' _ => h2 w'⟩⟩
      · cases hq

end
end Go.Proofs.YtfpfagmmdiohbaaGreatDoor.Ev
