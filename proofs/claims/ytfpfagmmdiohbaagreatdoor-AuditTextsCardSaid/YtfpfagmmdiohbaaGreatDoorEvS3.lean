/-
  The engine is sound, 3: operations that only compute.
-/
import Derived.Test.YtfpfagmmdiohbaaGreatDoorEvS2
import Derived.Laws.StructEq
set_option linter.unusedVariables false
set_option linter.unusedSimpArgs false
namespace Go.Proofs.YtfpfagmmdiohbaaGreatDoor.Ev
open Go.RowKit

structure TyOk (P : Program) (t : TypeId) (ti : TI) : Prop where
  desc : P.underlying t = some ti.desc
  info : ∃ i, P.info? t = some i ∧ i.size = ti.size ∧ i.bytes = ti.bytes ∧ ∀ z, ti.zero = some z → ∃ v, i.zero = some v ∧ lift v = some z
structure FnOk (P : Program) (f : FuncId) (fi : FI) : Prop where
  fn : ∃ fn, P.funcs[f]? = some fn ∧ fn.body = some fi.code ∧ fn.ntmps = fi.ntmps ∧ fn.results.toList = fi.results
  call : ∀ args w, (callFunc f args).run P w = .ok (.enter f args) w
structure GOk (P : Program) (g : G) (σ : Nat → Int) : Prop where
  ty : ∀ t ti, g.ty.get t = some ti → TyOk P t ti
  fn : ∀ f fi, g.fn.get f = some fi → FnOk P f fi
  eqs : ∀ t, memN g.eqs t = true → P.stoodInHeld t = false ∧ P.eqGuardType P.depth t = false
  know : KnowOk g.know σ
  mixed : P.follows .mixedOrders = true

section
variable {P : Program} {w : World}
theorem run_sizeOf' {t : TypeId} {ti : TI} (h : TyOk P t ti) : (sizeOf t).run P w = .ok ti.size w := by
  obtain ⟨i, h1, h2, _⟩ := h.info
  simp [sizeOf, typeInfo, h1, h2]
theorem run_bytes {t : TypeId} {ti : TI} (h : TyOk P t ti) : ∃ i, (typeInfo t).run P w = .ok i w ∧ i.bytes = ti.bytes := by
  obtain ⟨i, h1, _, h3, _⟩ := h.info
  exact ⟨i, by simp [typeInfo, h1], h3⟩
theorem run_zero {t : TypeId} {ti : TI} {z : AV} (h : TyOk P t ti) (hz : ti.zero = some z) : ∃ v, (zeroValue t).run P w = .ok v w ∧ lift v = some z := by
  obtain ⟨i, h1, _, _, h4⟩ := h.info
  obtain ⟨v, hv, hl⟩ := h4 z hz
  exact ⟨v, by simp [zeroValue, typeInfo, h1, hv], hl⟩
theorem run_isAgg' {t : TypeId} {ti : TI} (h : TyOk P t ti) : (isAgg t).run P w = .ok (isAggD ti.desc) w := by
  simp only [isAgg, Sem.run_bind, run_underlying h.desc, Result.andThen_ok]
  cases ti.desc <;> simp [isAggD]
end

/-! ### The frame -/
structure ARel (V : Env) (a : A) (A : Act) : Prop where
  tm : TmOk V a.tmps a.n A.tmps
  marks : ∃ ps : List (Nat × Nat), ps.length = a.marks.length ∧ (∀ (i d : Nat) (p : Nat × Nat), a.marks[i]? = some d → ps[i]? = some p → V.E d = some p) ∧ A.defers = ps.map fun p => { target := .collected p.1, args := #[] }

theorem ARel.mono {V V' : Env} {a : A} {A : Act} (h : ARel V a A) (k : Ext V V') : ARel V' a A := by
  obtain ⟨ps, h1, h2, h3⟩ := h.marks
  exact ⟨TmOk_mono k h.tm, ps, h1, fun i d p hd hp => k.E _ _ (h2 i d p hd hp), h3⟩
theorem ARel.get {V : Env} {a : A} {A : Act} (h : ARel V a A) (t : Nat) : (a.get t).conc V = some (A.eval (.tmp t)) := h.tm.2 t
theorem ARel.put {V : Env} {a a' : A} {A : Act} {d : Option Tmp} {v : AV} {x : Value} (h : ARel V a A) (hp : a.put d v = some a') (hv : v.conc V = some x) : ARel V a' (A.put d x) := by
  cases d with
  | none => simp [Ev.A.put] at hp; subst hp; exact h
  | some d =>
    simp only [Ev.A.put] at hp
    cases c : (Nat.blt d a.n && Nat.blt d big) with
    | false => rw [c] at hp; cases hp
    | true =>
      rw [c] at hp; simp only [cond_true, Option.some.injEq] at hp; subst hp
      simp at c
      refine ⟨⟨by simp [Act.put, h.tm.1], fun k => ?_⟩, h.marks⟩
      simp only [Act.put]
      rw [Tr.get_set64 _ _ _ _ c.2]
      have hsz := h.tm.1
      by_cases hk : k = d
      · subst hk
        simp only [if_true]
        have : (A.tmps.setIfInBounds k x).getD k undef = x := by simp [hsz, c.1]
        rw [this]; exact hv
      · rw [if_neg hk]
        have : (A.tmps.setIfInBounds d x).getD k undef = A.tmps.getD k undef := by
          simp [Array.getElem?_setIfInBounds_ne (fun e => hk e.symm)]
        rw [this]; exact h.tm.2 k

/-- The package-level variables that the heap knows. -/
def GlobOk (V : Env) (s : S) : Prop := ∀ g b, s.heap.get (2 * g + 1) = some b → ∃ p, V.E (2 * g + 1) = some p ∧ p.1 = g
theorem Rel.globOk {P : Program} {V : Env} {s : S} {B w : World} (h : Rel P V s B w) : GlobOk V s := fun g b hb => by
  obtain ⟨p, hp, _⟩ := h.blk _ b hb
  exact ⟨p, hp, h.glob g p hp⟩

theorem evO_ok {V : Env} {a : A} {A : Act} {s : S} {o : Operand} {v : AV} (hA : ARel V a A) (hg : GlobOk V s) (h : evO a s o = some v) : v.conc V = some (A.eval o) := by
  cases o with
  | tmp t => simp only [evO] at h; cases h; exact hA.get t
  | const c => exact lift_ok V h
  | global g =>
    simp only [evO] at h
    split at h
    · rename_i b hb; cases h
      obtain ⟨p, hp, rfl⟩ := hg g b hb
      simp only [AV.conc, hp, Act.eval]
    · cases h
  | func f => simp only [evO] at h; cases h; exact func_mk (concL_nil V) (concL_nil V)
theorem evL_ok {V : Env} {a : A} {A : Act} {s : S} (hA : ARel V a A) (hg : GlobOk V s) : ∀ {l : List Operand} {vs : List AV}, evL a s l = some vs → concL V vs = some (l.map A.eval) := by
  intro l
  induction l with
  | nil => intro vs h; cases h; exact concL_nil V
  | cons x xs ih =>
    intro vs h
    simp only [evL] at h
    split at h
    · rename_i v r hv hr; cases h; exact concL_mk (evO_ok hA hg hv) (ih hr)
    · cases h

/-! ### Parts -/
theorem partT_ok {P : Program} {g : G} {V : Env} (hty : ∀ t ti, g.ty.get t = some ti → TyOk P t ti) {t : TypeId} {cs : List AV} {off : Nat} {v : AV} {vs : List Value} (h : partT g t cs off = some v) (hc : concL V cs = some vs) :
    ∃ x, v.conc V = some x ∧ ∀ w, (part t vs.toArray off).run P w = .ok x w := by
  simp only [partT] at h
  split at h
  · rename_i ti hti
    have hT := hty t ti hti
    cases c : isAggD ti.desc with
    | true =>
      rw [c] at h; simp only [cond_true] at h
      split at h
      · rename_i l hl; cases h
        have key : concL V l = some ((vs.drop off).take ti.size) := by
          rcases concL_ltake hc hl with ⟨h1, _, _⟩ | ⟨h1, h2, h3⟩
          · exact h1
          · rw [h1, h2]; simp
        refine ⟨_, agg_mk key, fun w => ?_⟩
        simp only [part, Sem.run_bind, run_isAgg' hT, Result.andThen_ok, c, if_true, run_sizeOf' hT, Sem.run_pure]
        congr 2
        apply Array.ext'
        simp
      · cases h
    | false =>
      rw [c] at h; simp only [cond_false, lget_eq] at h
      obtain ⟨x, hx, hv⟩ := concL_get hc h
      refine ⟨x, hv, fun w => ?_⟩
      simp only [part, Sem.run_bind, run_isAgg' hT, Result.andThen_ok, c, Bool.false_eq_true, if_false]
      rw [List.getElem?_toArray, hx]; rfl
  · cases h

theorem memN_spec {l : List Nat} {t : Nat} : memN l t = true ↔ t ∈ l := by
  induction l with
  | nil => simp [memN]
  | cons x xs ih => simp only [memN, nbeq, Bool.or_eq_true, decide_eq_true_eq, ih, List.mem_cons]; exact or_congr ⟨fun h => h.symm, fun h => h.symm⟩ Iff.rfl

/-! ### '==' -/
theorem toList_mk (l : List UInt8) : (⟨l.toArray⟩ : ByteArray).toList = l := by rw [ByteArray.toList_eq]

theorem eqT_ok {P : Program} {g : G} {V : Env} (hG : GOk P g V.σ) : ∀ (d : Nat) (t : TypeId) (x y : AV) (b : Bool) (X Y : Value), eqT g d t x y = some b → x.conc V = some X → y.conc V = some Y →
    ∀ d', d ≤ d' → ∀ w, (Op.equalIn d' t X Y).run P w = .ok b w := by
  intro d
  induction d with
  | zero => intro t x y b X Y h; simp [eqT] at h
  | succ d ih =>
    intro t x y b X Y h hX hY d' hd w
    obtain ⟨e, rfl⟩ : ∃ e, d' = e + 1 := ⟨d' - 1, by omega⟩
    simp only [eqT] at h
    split at h
    · cases h
    · rename_i ti hti
      have hT := hG.ty t ti hti
      have hu := hT.desc
      split at h
      · rename_i a c hd1; cases h; rw [hd1] at hu
        simp only [AV.conc] at hX hY; cases hX; cases hY
        exact run_equalIn_bool w e t a c hu
      · rename_i k0 k a k' c hd1
        rw [hd1] at hu
        cases ck : kindEq k k' with
        | false => rw [ck] at h; cases h
        | true =>
          rw [ck] at h; simp only [cond_true] at h
          have := kindEq_eq ck; subst this
          simp only [AV.conc] at hX hY; cases hX; cases hY
          rw [run_equalIn_int w e t k k0 _ _ hu, ← eqE_ok hG.know _ _ _ h]
          congr 1
      · rename_i a c hd1; cases h; rw [hd1] at hu
        simp only [AV.conc] at hX hY; cases hX; cases hY
        rw [run_equalIn_string w e t _ _ hu, toList_mk, toList_mk, bytesEq_eq]
        congr 1
        by_cases hh : a = c <;> simp [hh]
      · rename_i e' hd1; cases h; rw [hd1] at hu
        simp only [AV.conc] at hX hY; cases hX; cases hY
        simp [Op.equalIn, run_underlying hu]
      · rename_i e' i o hd1; cases h; rw [hd1] at hu
        simp only [AV.conc] at hX; cases hX
        obtain ⟨p, _, rfl⟩ := conc_ptr hY
        simp [Op.equalIn, run_underlying hu]
      · rename_i e' i o hd1; cases h; rw [hd1] at hu
        simp only [AV.conc] at hY; cases hY
        obtain ⟨p, _, rfl⟩ := conc_ptr hX
        simp [Op.equalIn, run_underlying hu]
      · rename_i e' hd1; cases h; rw [hd1] at hu
        simp only [AV.conc] at hX hY; cases hX; cases hY
        simp [Op.equalIn, run_underlying hu]
      · rename_i e' i o n c sk hd1; cases h; rw [hd1] at hu
        simp only [AV.conc] at hX; cases hX
        obtain ⟨p, _, rfl⟩ := conc_slice hY
        simp [Op.equalIn, run_underlying hu]
      · rename_i e' i o n c sk hd1; cases h; rw [hd1] at hu
        simp only [AV.conc] at hY; cases hY
        obtain ⟨p, _, rfl⟩ := conc_slice hX
        simp [Op.equalIn, run_underlying hu]
      · rename_i k' e' hd1; cases h; rw [hd1] at hu
        simp only [AV.conc] at hX hY; cases hX; cases hY
        simp [Op.equalIn, run_underlying hu]
      · rename_i k' e' i hd1; cases h; rw [hd1] at hu
        simp only [AV.conc] at hX; cases hX
        obtain ⟨p, _, rfl⟩ := conc_map hY
        simp [Op.equalIn, run_underlying hu]
      · rename_i k' e' i hd1; cases h; rw [hd1] at hu
        simp only [AV.conc] at hY; cases hY
        obtain ⟨p, _, rfl⟩ := conc_map hX
        simp [Op.equalIn, run_underlying hu]
      · rename_i hd1; cases h; rw [hd1] at hu
        simp only [AV.conc] at hX hY; cases hX; cases hY
        simp [Op.equalIn, run_underlying hu]
      · rename_i hd1; cases h; rw [hd1] at hu
        simp only [AV.conc] at hX; cases hX
        obtain ⟨_, _, _, _, rfl⟩ := conc_func hY
        simp [Op.equalIn, run_underlying hu]
      · rename_i hd1; cases h; rw [hd1] at hu
        simp only [AV.conc] at hY; cases hY
        obtain ⟨_, _, _, _, rfl⟩ := conc_func hX
        simp [Op.equalIn, run_underlying hu]
      · rename_i fields xs ys hd1
        rw [hd1] at hu
        cases cm : memN g.eqs t with
        | false => rw [cm] at h; cases h
        | true =>
          rw [cm] at h; simp only [cond_true] at h
          obtain ⟨us, rfl, hus⟩ := conc_agg hX
          obtain ⟨vs, rfl, hvs⟩ := conc_agg hY
          have hf : P.fieldsOf t = fields := by simp [Program.fieldsOf, hu]
          rw [run_equalIn_struct w e t _ _ (by rw [hf]; exact hu) (hG.eqs t cm).1, hf]
          have key : ∀ (fs : List Field), eqFields (eqT g d) g xs ys fs = some b → ∀ w, (Op.eqFields e us.toArray vs.toArray fs).run P w = .ok b w := by
            intro fs
            induction fs with
            | nil => intro h w; simp [eqFields] at h; subst h; rfl
            | cons f fs ihf =>
              intro h w
              simp only [eqFields] at h
              cases cn : (f.name == "_") with
              | true => rw [cn] at h; cases h
              | false =>
                rw [cn] at h; simp only [cond_false] at h
                have hne : f.name ≠ "_" := by intro e; rw [e] at cn; simp at cn
                split at h
                · rename_i a c ha hc
                  obtain ⟨A', hA', rA⟩ := partT_ok hG.ty ha hus
                  obtain ⟨C', hC', rC⟩ := partT_ok hG.ty hc hvs
                  simp only [Op.eqFields, if_pos hne, Sem.run_bind, rA, rC, Result.andThen_ok]
                  split at h
                  · rename_i hr
                    rw [ih f.type a c true A' C' hr hA' hC' e (by omega) w]
                    simp only [Result.andThen_ok, Bool.not_true, Bool.false_eq_true, if_false]
                    exact ihf h w
                  · rename_i hr
                    cases h
                    rw [ih f.type a c false A' C' hr hA' hC' e (by omega) w]
                    simp
                  · cases h
                · cases h
          exact key _ h w
      · cases h

end Go.Proofs.YtfpfagmmdiohbaaGreatDoor.Ev
