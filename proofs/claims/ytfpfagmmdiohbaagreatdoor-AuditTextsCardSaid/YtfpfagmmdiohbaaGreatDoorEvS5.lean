/-
  The engine is sound, 5: operations that only compute (joined).
-/
import Derived.Test.YtfpfagmmdiohbaaGreatDoorEvS4
set_option linter.unusedVariables false
set_option linter.unusedSimpArgs false
namespace Go.Proofs.YtfpfagmmdiohbaaGreatDoor.Ev
open Go.RowKit

section
variable {P : Program} {g : G} {V : Env}

theorem fold_setAll : ∀ (xs l : List Value) (off k : Nat), (xs.zipIdx k).foldl (fun (cs : Array Value) (x : Value × Nat) => cs.setIfInBounds (off + x.2) x.1) l.toArray = (setAll l (off + k) xs).toArray := by
  intro xs
  induction xs with
  | nil => intro l off k; simp [setAll]
  | cons x xs ih =>
    intro l off k
    simp only [List.zipIdx_cons, List.foldl_cons, setAll]
    have : l.toArray.setIfInBounds (off + k) x = (l.set (off + k) x).toArray := by simp
    rw [this, ih]
    rw [show off + (k + 1) = off + k + 1 by omega]

def PartsOk (V : Env) : List (Nat × AV) → List (Nat × Value) → Prop
  | [], [] => True
  | (i, v) :: l, (j, x) :: m => i = j ∧ v.conc V = some x ∧ PartsOk V l m
  | _, _ => False

theorem fill_ok (hτ : TauOk V) {pl : Nat → Option (Nat × Nat)} : ∀ {ps : List (Nat × AV)} {xs : List (Nat × Value)} {cells cs : List AV} {vs : List Value}, fillC pl cells ps = some cs → concL V cells = some vs → PartsOk V ps xs →
    ∃ us, Instr.fill pl vs.toArray xs = some us.toArray ∧ concL V cs = some us := by
  intro ps
  induction ps with
  | nil =>
    intro xs cells cs vs h hc hp
    cases xs with
    | nil => simp [fillC] at h; subst h; exact ⟨vs, rfl, hc⟩
    | cons x xs => exact hp.elim
  | cons p ps ih =>
    intro xs cells cs vs h hc hp
    obtain ⟨i, v⟩ := p
    cases xs with
    | nil => exact hp.elim
    | cons x xs =>
      obtain ⟨j, X⟩ := x
      obtain ⟨rfl, hv, hr⟩ := hp
      simp only [fillC] at h
      cases hpl : pl i with
      | none => rw [hpl] at h; cases h
      | some os =>
        obtain ⟨off, size⟩ := os
        rw [hpl] at h; simp only at h
        cases c : (Nat.beq (llen v.cells) size && Nat.ble (Nat.add off size) (llen cells) && allOne v.cells) with
        | false => rw [c] at h; cases h
        | true =>
          rw [c] at h; simp only [cond_true] at h
          rw [llen_eq, llen_eq] at c
          simp only [nbeq, nble, Bool.and_eq_true, decide_eq_true_eq] at c
          obtain ⟨⟨c1, c2⟩, _⟩ := c
          have c2' : off + size ≤ cells.length := c2
          have hcell := conc_cells hτ hv
          have hlen := concL_len hcell
          have hlen2 := concL_len hc
          obtain ⟨us, h1, h2⟩ := ih h (concL_setAll off hc hcell) hr
          refine ⟨us, ?_, h2⟩
          have hsz : X.cells.size = size := by rw [← Array.length_toList, hlen, c1]
          have e1 : ¬ (X.cells.size ≠ size || decide (off + X.cells.size > vs.toArray.size)) = true := by
            simp [hsz]; omega
          simp only [Instr.fill, hpl, if_neg e1]
          rw [← h1]
          congr 1
          have := fold_setAll X.cells.toList vs off 0
          rw [Nat.add_zero] at this
          rw [← this, ← Array.foldl_toList, Array.toList_zipIdx]

theorem evParts_ok {a : A} {A : Act} {s : S} (hA : ARel V a A) (hg : GlobOk V s) : ∀ {l : List (Nat × Operand)} {vs : List (Nat × AV)}, evParts a s l = some vs → PartsOk V vs (l.map fun (i, x) => (i, A.eval x)) := by
  intro l
  induction l with
  | nil => intro vs h; cases h; trivial
  | cons x xs ih =>
    intro vs h
    obtain ⟨i, x⟩ := x
    simp only [evParts] at h
    split at h
    · rename_i v r hv hr; cases h; exact ⟨rfl, evO_ok hA hg hv, ih hr⟩
    · cases h

theorem placesF_ok (hG : GOk P g V.σ) : ∀ {fs : List Field} {pl : List (Nat × Nat)}, placesF g fs = some pl → fs.mapM (fun f => (P.info? f.type).map fun i => (f.offset, i.size)) = some pl := by
  intro fs
  induction fs with
  | nil => intro pl h; cases h; rfl
  | cons f fs ih =>
    intro pl h
    simp only [placesF] at h
    split at h
    · rename_i ti l hti hl; cases h
      obtain ⟨i, h1, h2, _⟩ := (hG.ty _ _ hti).info
      simp [List.mapM_cons, h1, ih hl, h2]
    · cases h

theorem zero_conc {t : TypeId} {ti : TI} {z : AV} (hG : GOk P g V.σ) (ht : g.ty.get t = some ti) (hz : ti.zero = some z) (hτ : TauOk V) :
    ∃ i v, P.info? t = some i ∧ i.zero = some v ∧ i.size = ti.size ∧ z.conc V = some v ∧ concL V z.cells = some v.cells.toList := by
  obtain ⟨i, h1, h2, _, h4⟩ := (hG.ty _ _ ht).info
  obtain ⟨v, hv, hl⟩ := h4 z hz
  have := lift_ok V hl
  exact ⟨i, v, h1, hv, h2, this, conc_cells hτ this⟩

theorem natOf_ok {x : AV} {n : Nat} {X : Value} (h : natOf x = some n) (hX : x.conc V = some X) : ∃ k, X = .int k n := by
  unfold natOf at h
  split at h
  · rename_i k m; cases h
    simp only [AV.conc] at hX; cases hX
    exact ⟨k, rfl⟩
  · cases h

theorem boundOf_ok {a : A} {A : Act} {s : S} (hA : ARel V a A) (hg : GlobOk V s) {o : Option Operand} {d n : Nat} (h : boundOf a s o d = some n) :
    (o = none ∧ n = d) ∨ ∃ x k, o = some x ∧ A.eval x = .int k n := by
  unfold boundOf at h
  split at h
  · cases h; exact .inl ⟨rfl, rfl⟩
  · rename_i x
    split at h
    · rename_i v hv
      obtain ⟨k, hk⟩ := natOf_ok h (evO_ok hA hg hv)
      exact .inr ⟨x, k, rfl, hk⟩
    · cases h

theorem run_sliceBound {n m : Nat} {k : IntKind} (h : n ≤ m) (code : BoundsCode) (w : World) : (Instr.sliceBound (.int k n) m code).run P w = .ok n w := by
  simp [Instr.sliceBound, asIntOf, h]

theorem run_sliceBounds {a : A} {A : Act} {s : S} (hA : ARel V a A) (hg : GlobOk V s) {lo hi : Option Operand} {len cap i j : Nat} (b : Bool) (h1 : boundOf a s lo 0 = some i) (h2 : boundOf a s hi len = some j) (hij : i ≤ j) (hjc : j ≤ cap) (w : World) :
    (Instr.sliceBounds b len cap (lo.map A.eval) (hi.map A.eval) none).run P w = .ok (i, j, cap) w := by
  have sb : ∀ {n m : Nat} {k : IntKind} (h : n ≤ m) (code : BoundsCode) (w : World), (Instr.sliceBound (.int k n) m code).run P w = .ok n w := fun h c w => run_sliceBound h c w
  rcases boundOf_ok hA hg h2 with ⟨rfl, rfl⟩ | ⟨x, k, rfl, hx⟩ <;> rcases boundOf_ok hA hg h1 with ⟨rfl, rfl⟩ | ⟨y, k', rfl, hy⟩
  · simp only [Instr.sliceBounds, Option.map_none, Sem.run_bind, Sem.run_pure, Result.andThen_ok]
  · simp only [Instr.sliceBounds, Option.map_none, Option.map_some, hy, Sem.run_bind, Sem.run_pure, Result.andThen_ok, sb hij]
  · simp only [Instr.sliceBounds, Option.map_none, Option.map_some, hx, Sem.run_bind, Sem.run_pure, Result.andThen_ok, sb hjc]
  · simp only [Instr.sliceBounds, Option.map_some, hx, hy, Sem.run_bind, Sem.run_pure, Result.andThen_ok, sb hij, sb hjc]

theorem extract_take (l : List UInt8) (i j : Nat) : (⟨l.toArray⟩ : ByteArray).extract i j = ⟨((l.drop i).take (j - i)).toArray⟩ := by
  apply ByteArray.ext
  simp [ByteArray.data_extract]

theorem sliceA_ok (hG : GOk P g V.σ) {a : A} {A : Act} {s : S} (hA : ARel V a A) (hg : GlobOk V s) {t : TypeId} {x v : AV} {X : Value} {lo hi mx : Option Operand} (h : sliceA g a s t x lo hi mx = some v) (hX : x.conc V = some X) :
    ∃ R, v.conc V = some R ∧ ∀ w, (Instr.sliceAt t X (lo.map A.eval) (hi.map A.eval) (mx.map A.eval)).run P w = .ok R w := by
  unfold sliceA at h
  cases mx with
  | some m => cases h
  | none =>
    simp only at h
    split at h
    · cases h
    · rename_i ti hti
      have hT := hG.ty _ _ hti
      have hu := hT.desc
      split at h
      · -- a string
        rename_i l hd
        rw [hd] at hu
        simp only [AV.conc] at hX; cases hX
        split at h
        · rename_i i j h1 h2
          rw [llen_eq] at h h2
          cases c : (Nat.ble i j && Nat.ble j l.length) with
          | false => rw [c] at h; cases h
          | true =>
            rw [c] at h; simp only [cond_true] at h
            simp only [nble, Bool.and_eq_true, decide_eq_true_eq] at c
            split at h
            · rename_i r hr; cases h
              obtain ⟨e1, _, _⟩ := ltake_some _ _ _ hr
              rw [ldrop_eq] at e1
              refine ⟨_, rfl, fun w => ?_⟩
              have hs : (⟨l.toArray⟩ : ByteArray).size = l.length := by simp [ByteArray.size]
              simp only [Instr.sliceAt, Sem.run_bind, run_underlying hu, Result.andThen_ok, Instr.slice, Option.map_none, Option.isSome_none, Bool.false_eq_true, if_false, Sem.run_pure, hs]
              rw [run_sliceBounds hA hg false h1 h2 c.1 c.2 w]
              simp only [Result.andThen_ok, Sem.run_pure]
              rw [extract_take, e1]
              rfl
            · cases h
        · cases h
      · -- a slice of known capacity
        rename_i e id off len cp skip hd
        rw [hd] at hu
        obtain ⟨p, hp, rfl⟩ := conc_slice hX
        split at h
        · rename_i i j te h1 h2 hte
          cases c : (Nat.ble i j && Nat.ble j cp) with
          | false => rw [c] at h; cases h
          | true =>
            rw [c] at h; simp only [cond_true] at h; cases h
            simp only [nble, Bool.and_eq_true, decide_eq_true_eq] at c
            refine ⟨.slice (some (if cp = i then ⟨p.1, off, none⟩ else (⟨p.1, off, none⟩ : Addr).add (i * te.size))) (j - i) (cp - i), ?_, fun w => ?_⟩
            · simp only [AV.conc, hp, capOf, nbeq]
              by_cases hci : cp = i
              · simp [hci]
              · simp only [hci, decide_false, cond_false, if_false]
                congr 2
                unfold Addr.add
                split
                · rename_i h0; simp [h0]
                · rfl
            · simp only [Instr.sliceAt, Sem.run_bind, run_underlying hu, Result.andThen_ok, Instr.slice, Option.map_none, capOf]
              rw [run_sliceBounds hA hg true h1 h2 c.1 c.2 w]
              simp only [Result.andThen_ok, run_sizeOf' (hG.ty _ _ hte), Sem.run_pure, Option.map_some]
              by_cases hci : cp = i <;> simp [hci]
        · cases h
      · -- nil
        rename_i e hd
        rw [hd] at hu
        simp only [AV.conc] at hX; cases hX
        split at h
        · rename_i i j te h1 h2 hte
          cases c : (Nat.beq i 0 && Nat.beq j 0) with
          | false => rw [c] at h; cases h
          | true =>
            rw [c] at h; simp only [cond_true] at h; cases h
            simp only [nbeq, Bool.and_eq_true, decide_eq_true_eq] at c
            obtain ⟨rfl, rfl⟩ := c
            refine ⟨_, rfl, fun w => ?_⟩
            simp only [Instr.sliceAt, Sem.run_bind, run_underlying hu, Result.andThen_ok, Instr.slice, Option.map_none]
            rw [run_sliceBounds hA hg true h1 h2 (Nat.le_refl 0) (Nat.le_refl 0) w]
            simp only [Result.andThen_ok, run_sizeOf' (hG.ty _ _ hte), Sem.run_pure]
            rfl
        · cases h
      · -- the whole of an array
        rename_i n e id off hd
        rw [hd] at hu
        obtain ⟨p, hp, rfl⟩ := conc_ptr hX
        split at h
        · rename_i i j te h1 h2 hte
          cases c : (Nat.ble i j && Nat.ble j n) with
          | false => rw [c] at h; cases h
          | true =>
            rw [c] at h; simp only [cond_true] at h; cases h
            simp only [nble, Bool.and_eq_true, decide_eq_true_eq] at c
            refine ⟨.slice (some (if n = i then ⟨p.1, off, none⟩ else (⟨p.1, off, none⟩ : Addr).add (i * te.size))) (j - i) (n - i), ?_, fun w => ?_⟩
            · simp only [AV.conc, hp, capOf, nbeq]
              by_cases hci : n = i
              · simp [hci]
              · simp only [hci, decide_false, cond_false, if_false]
                congr 2
                unfold Addr.add
                split
                · rename_i h0; simp [h0]
                · rfl
            · simp only [Instr.sliceAt, Sem.run_bind, run_underlying hu, Result.andThen_ok, Instr.sureAddr, Sem.run_pure, Option.map_none]
              rw [run_sliceBounds hA hg false h1 h2 c.1 c.2 w]
              simp only [Result.andThen_ok, run_sizeOf' (hG.ty _ _ hte), Sem.run_pure]
        · cases h
      · cases h

theorem foldMM_ok (hK : KnowOk g.know V.σ) (mx : Bool) : ∀ (r : List AV) (x v : AV) (X : Value) (xs : List Value), foldMM g.know mx x r = some v → x.conc V = some X → concL V r = some xs → ∃ R, v.conc V = some R ∧
    ∀ w, (xs.foldlM (if mx then Builtin.max2 else Builtin.min2) X).run P w = .ok R w := by
  intro r
  induction r with
  | nil => intro x v X xs h hX hr; cases hr; simp [foldMM] at h; subst h; exact ⟨X, hX, fun w => rfl⟩
  | cons y ys ih =>
    intro x v X xs h hX hr
    obtain ⟨Y, r', rfl, hY, hr'⟩ := concL_cons hr
    unfold foldMM at h
    split at h
    · rename_i h0; cases h0
    · rename_i k a k' b r0 e1; cases e1
      simp only [AV.conc] at hX hY; cases hX; cases hY
      split at h
      · rename_i t ht
        split at h
        · rename_i u hu
          have l1 := leE_ok hK _ _ _ ht
          have l2 := leE_ok hK _ _ _ hu
          obtain ⟨R, hR, hrun⟩ := ih _ _ _ _ h rfl hr'
          refine ⟨R, hR, fun w => ?_⟩
          rw [List.foldlM_cons, Sem.run_bind]
          have : ((if mx then Builtin.max2 else Builtin.min2) (Value.int k (IE.val V.σ a)) (Value.int k' (IE.val V.σ b))).run P w =
              .ok (.int k (IE.val V.σ (bif mx then (bif t && !u then b else a) else (bif u && !t then b else a)))) w := by
            cases mx <;> cases t <;> cases u <;> simp at l1 l2 <;> simp [Builtin.max2, Builtin.min2] <;> omega
          rw [this]
          exact hrun w
        · cases h
      · cases h
    · cases h

theorem pureB_ok (hG : GOk P g V.σ) {b : Builtin} {ats : Array TypeId} {args : List AV} {v : AV} {xs : List Value} (ty : TypeId) (cs : Array Bool) (h : pureB g b ats args = some v) (hx : concL V args = some xs) :
    ∃ R, v.conc V = some R ∧ ∀ w, (builtin b ats ty cs xs.toArray).run P w = .ok (.value R) w := by
  obtain ⟨ats⟩ := ats
  unfold pureB at h
  split at h
  · -- len
    rename_i t ts x r e1
    cases e1
    obtain ⟨X, xr, rfl, hX, _⟩ := concL_cons hx
    split at h
    · rename_i ti hti
      have hu := (hG.ty _ _ hti).desc
      split at h
      · rename_i l hd; cases h; rw [hd] at hu
        simp only [AV.conc] at hX; cases hX
        refine ⟨_, rfl, fun w => ?_⟩
        have hs : (⟨l.toArray⟩ : ByteArray).size = l.length := by simp [ByteArray.size]
        have e : (Builtin.len_ ⟨t :: ts⟩ ty (Value.string ⟨l.toArray⟩ :: xr).toArray).run P w = .ok (goInt l.length) w := by
          simp [Builtin.len_, run_underlying hu, hs]
        show (do pure (Next.value (← Builtin.len_ ⟨t :: ts⟩ ty (Value.string ⟨l.toArray⟩ :: xr).toArray)) : Sem Next).run P w = _
        simp only [Sem.run_bind, e, Result.andThen_ok, Sem.run_pure, llen_eq]
        rfl
      · rename_i e id off n c sk hd; cases h; rw [hd] at hu
        obtain ⟨p, _, rfl⟩ := conc_slice hX
        refine ⟨_, rfl, fun w => ?_⟩
        simp [builtin, Builtin.len_, run_underlying hu, IE.val, goInt]
      · rename_i e hd; cases h; rw [hd] at hu
        simp only [AV.conc] at hX; cases hX
        refine ⟨_, rfl, fun w => ?_⟩
        simp [builtin, Builtin.len_, run_underlying hu, IE.val, goInt]
      · cases h
    · cases h
  · -- cap
    rename_i t ts x r e1
    cases e1
    obtain ⟨X, xr, rfl, hX, _⟩ := concL_cons hx
    split at h
    · rename_i ti hti
      have hu := (hG.ty _ _ hti).desc
      split at h
      · rename_i e id off n c sk hd; cases h; rw [hd] at hu
        obtain ⟨p, _, rfl⟩ := conc_slice hX
        refine ⟨_, rfl, fun w => ?_⟩
        simp [builtin, Builtin.cap_, run_underlying hu, IE.val, goInt, capOf]
      · rename_i e hd; cases h; rw [hd] at hu
        simp only [AV.conc] at hX; cases hX
        refine ⟨_, rfl, fun w => ?_⟩
        simp [builtin, Builtin.cap_, run_underlying hu, IE.val, goInt]
      · cases h
    · cases h
  · -- max
    obtain ⟨X, xr, rfl, hX, hr⟩ := concL_cons hx
    obtain ⟨R, hR, hrun⟩ := foldMM_ok (P := P) hG.know true _ _ _ _ _ h hX hr
    refine ⟨R, hR, fun w => ?_⟩
    have := hrun w
    simp only [if_true] at this
    have e : (Builtin.max_ ⟨ats⟩ ty (X :: xr).toArray).run P w = .ok R w := this
    show (do pure (Next.value (← Builtin.max_ ⟨ats⟩ ty (X :: xr).toArray)) : Sem Next).run P w = _
    simp only [Sem.run_bind, e, Result.andThen_ok, Sem.run_pure]
  · -- min
    obtain ⟨X, xr, rfl, hX, hr⟩ := concL_cons hx
    obtain ⟨R, hR, hrun⟩ := foldMM_ok (P := P) hG.know false _ _ _ _ _ h hX hr
    refine ⟨R, hR, fun w => ?_⟩
    have := hrun w
    simp only [Bool.false_eq_true, if_false] at this
    have e : (Builtin.min_ ⟨ats⟩ ty (X :: xr).toArray).run P w = .ok R w := this
    show (do pure (Next.value (← Builtin.min_ ⟨ats⟩ ty (X :: xr).toArray)) : Sem Next).run P w = _
    simp only [Sem.run_bind, e, Result.andThen_ok, Sem.run_pure]
  · cases h

theorem part_lget {l : List AV} {vs : List Value} {i : Nat} {v : AV} (hl : concL V l = some vs) (h : lget l i = some v) : ∃ x, vs[i]? = some x ∧ v.conc V = some x := by
  rw [lget_eq] at h; exact concL_get hl h

/-- AN OPERATION THAT ONLY COMPUTES, IN WHATEVER WORLD. -/
theorem pureA_ok (hG : GOk P g V.σ) (hτ : TauOk V) {a : A} {A : Act} {s : S} (hA : ARel V a A) (hg : GlobOk V s) {o : Oper} {v : AV} (h : pureA g a s o = some v) :
    ∃ x, v.conc V = some x ∧ ∀ w, (execOp A.eval o).run P w = .ok (.value x) w := by
  have lift : ∀ {m : Sem Value} {x : Value}, (∀ w, m.run P w = .ok x w) → ∀ w, (do pure (Next.value (← m)) : Sem Next).run P w = .ok (.value x) w := by
    intro m x hm w; simp only [Sem.run_bind, hm, Result.andThen_ok, Sem.run_pure]
  obtain ⟨dst, op, type, pos, after, guard⟩ := o
  unfold pureA at h
  simp only at h
  split at h
  · exact ⟨_, evO_ok hA hg h, fun w => rfl⟩
  · exact ⟨_, evO_ok hA hg h, fun w => rfl⟩
  · -- pick
    rename_i c x y
    split at h
    · rename_i b X Y hc hx hy; cases h
      have h1 := evO_ok hA hg hc
      simp only [AV.conc, Option.some.injEq] at h1
      refine ⟨if b then A.eval x else A.eval y, ?_, fun w => ?_⟩
      · cases b
        · exact evO_ok hA hg hy
        · exact evO_ok hA hg hx
      · simp [execOp, ← h1, asBool]
    · cases h
  · -- build
    rename_i t parts
    split at h
    · rename_i ti ps hti hps
      split at h
      · rename_i z hz
        obtain ⟨i, zv, hi, hiz, his, hzc, hzl⟩ := zero_conc hG hti hz hτ
        have hu := (hG.ty _ _ hti).desc
        have hP := evParts_ok hA hg hps
        split at h
        · rename_i fields hd
          rw [hd] at hu
          split at h
          · rename_i pl hpl
            split at h
            · rename_i cs hf; cases h
              obtain ⟨us, h1, h2⟩ := fill_ok hτ hf hzl hP
              refine ⟨_, agg_mk h2, lift (fun w => ?_)⟩
              refine run_build w t _ us.toArray ?_
              simp only [Program.built, hi, hu, hiz, placesF_ok hG hpl, Array.toList_map]
              have e : (fun i => (pl.toArray)[i]? : Nat → Option (Nat × Nat)) = lget pl := by funext i; rw [lget_eq]; simp
              rw [e]
              simpa using h1
            · cases h
          · cases h
        · rename_i n e hd
          rw [hd] at hu
          split at h
          · rename_i te hte
            split at h
            · rename_i cs hf; cases h
              obtain ⟨us, h1, h2⟩ := fill_ok hτ hf hzl hP
              refine ⟨_, agg_mk h2, lift (fun w => ?_)⟩
              refine run_build w t _ us.toArray ?_
              obtain ⟨ie, hie, hies, _⟩ := (hG.ty _ _ hte).info
              simp only [Program.built, hi, hu, hiz, hie, Array.toList_map, hies]
              simpa using h1
            · cases h
          · cases h
        · cases h
      · cases h
    · cases h
  · -- nilCheck
    rename_i x
    split at h
    · rename_i id off hx; cases h
      obtain ⟨p, hp, e⟩ := conc_ptr (evO_ok hA hg hx)
      exact ⟨_, e ▸ evO_ok hA hg hx, fun w => by simp [execOp, e]⟩
    · rename_i f p q hx; cases h
      obtain ⟨fs, cs, h1, h2, e⟩ := conc_func (evO_ok hA hg hx)
      exact ⟨_, e ▸ evO_ok hA hg hx, fun w => by simp [execOp, e]⟩
    · rename_i l hx; cases h
      obtain ⟨p, hp, e⟩ := conc_yield (evO_ok hA hg hx)
      exact ⟨_, e ▸ evO_ok hA hg hx, fun w => by simp [execOp, e]⟩
    · cases h
  · -- binOp
    rename_i op t x y yt
    split at h
    · rename_i X Y hx hy
      obtain ⟨R, h1, h2⟩ := binA_ok hG x y h (evO_ok hA hg hx) (evO_ok hA hg hy)
      exact ⟨R, h1, lift h2⟩
    · cases h
  · -- unOp
    rename_i op t x
    split at h
    · rename_i X hx
      have hX := evO_ok hA hg hx
      unfold unA at h
      split at h
      · cases h
        simp only [AV.conc, Option.some.injEq] at hX
        exact ⟨_, rfl, lift (fun w => by rw [← hX]; rfl)⟩
      · rename_i k e
        simp only [AV.conc, Option.some.injEq] at hX
        obtain ⟨R, h1, h2⟩ := intOp_ok hG .sub 0 k (.lit 0) e v h
        refine ⟨R, h1, lift (fun w => ?_)⟩
        rw [← hX]
        have := h2 w
        simp only [binOp, ne_eq, not_true, if_false, IE.val] at this
        exact this
      · cases h
    · cases h
  · -- convert
    rename_i t u x
    split at h
    · rename_i l tu ti hx hu' ht'
      have hX := evO_ok hA hg hx
      simp only [AV.conc, Option.some.injEq] at hX
      have hu := (hG.ty _ _ hu').desc
      have ht := (hG.ty _ _ ht').desc
      split at h
      · rename_i hd; cases h; rw [hd] at hu
        refine ⟨_, rfl, lift (fun w => ?_)⟩
        rw [← hX]
        simp only [convert, Sem.run_bind, run_underlying ht, run_underlying hu, Result.andThen_ok]
        cases ti.desc <;> rfl
      · cases h
    · rename_i k e tu ti hx hu' ht'
      have hX := evO_ok hA hg hx
      simp only [AV.conc, Option.some.injEq] at hX
      have hu := (hG.ty _ _ hu').desc
      have ht := (hG.ty _ _ ht').desc
      split at h
      · rename_i k2 hd
        rw [hd] at hu
        split at h
        · rename_i e2 he; cases h
          refine ⟨_, rfl, lift (fun w => ?_)⟩
          rw [← hX]
          simp only [convert, Sem.run_bind, run_underlying ht, run_underlying hu, Result.andThen_ok]
          rw [wrapE_ok hG.know _ _ _ he]
          cases ti.desc <;> rfl
        · cases h
      · cases h
    · cases h
  · -- makeFunc
    rename_i fn first captured
    split at h
    · rename_i f c hf hc; cases h
      refine ⟨_, func_mk (evL_ok hA hg hf) (evL_ok hA hg hc), fun w => ?_⟩
      simp only [execOp, Instr.makeFunc]
      show Result.ok _ w = _
      congr 3 <;> (apply Array.ext'; simp)
    · cases h
  · -- slice
    rename_i t x lo hi mx
    split at h
    · rename_i X hx
      obtain ⟨R, h1, h2⟩ := sliceA_ok hG hA hg h (evO_ok hA hg hx)
      exact ⟨R, h1, lift h2⟩
    · cases h
  · -- fieldAddr
    rename_i t x f
    split at h
    · rename_i id off ti hx hti
      obtain ⟨p, hp, e⟩ := conc_ptr (evO_ok hA hg hx)
      have hu := (hG.ty _ _ hti).desc
      split at h
      · rename_i fields hd
        rw [hd] at hu
        split at h
        · rename_i fd hfd
          rw [lget_eq] at hfd
          split at h
          · rename_i tf htf
            cases c : Nat.beq tf.size 0 with
            | true => rw [c] at h; cases h
            | false =>
              rw [c] at h; cases h
              have hne : tf.size ≠ 0 := by simpa using c
              refine ⟨.pointer (some ⟨p.1, off + fd.offset, none⟩), by simp only [AV.conc, hp]; rfl, lift (fun w => ?_)⟩
              have hfd' : fields[f]? = some fd := by simpa using hfd
              simp only [Instr.fieldAt, Sem.run_bind, run_underlying hu, Result.andThen_ok, hfd', e, Instr.sureAddr, Sem.run_pure, fieldPlace, run_sizeOf' (hG.ty _ _ htf), Sem.run_ite, if_neg hne]
              congr 3
              unfold Addr.add
              split
              · rename_i h0; simp [h0]
              · rfl
          · cases h
        · cases h
      · cases h
    · cases h
  · -- field
    rename_i t x f
    split at h
    · rename_i l ti hx hti
      obtain ⟨vs, e, hl⟩ := conc_agg (evO_ok hA hg hx)
      have hu := (hG.ty _ _ hti).desc
      split at h
      · rename_i fields hd
        rw [hd] at hu
        split at h
        · rename_i fd hfd
          rw [lget_eq] at hfd
          have hfd' : fields[f]? = some fd := by simpa using hfd
          obtain ⟨X, h1, h2⟩ := partT_ok hG.ty h hl
          refine ⟨X, h1, lift (fun w => ?_)⟩
          simp only [Instr.field, Sem.run_bind, run_underlying hu, Result.andThen_ok, hfd', e, asAgg, Sem.run_pure, h2]
        · cases h
      · cases h
    · cases h
  · -- indexAddr
    rename_i t x i
    split at h
    · rename_i X I ti hx hi hti
      have hX := evO_ok hA hg hx
      have hu := (hG.ty _ _ hti).desc
      split at h
      · rename_i n hn
        obtain ⟨k, hI⟩ := natOf_ok hn (evO_ok hA hg hi)
        split at h
        · rename_i m e id off hd
          rw [hd] at hu
          obtain ⟨p, hp, eX⟩ := conc_ptr hX
          split at h
          · rename_i te hte
            cases c : Nat.blt n m with
            | false => rw [c] at h; cases h
            | true =>
              rw [c] at h; cases h
              have hlt : n < m := by simpa using c
              refine ⟨.pointer (some ⟨p.1, off + n * te.size, none⟩), by simp only [AV.conc, hp]; rfl, lift (fun w => ?_)⟩
              have hb : (0 : Int) ≤ (n : Int) ∧ (n : Int) < (m : Int) := by omega
              simp only [Instr.indexAt, hI, asIntOf, Sem.run_bind, Sem.run_pure, Result.andThen_ok, run_underlying hu, eX, Instr.sureAddr, Sem.run_ite, if_pos hb, run_sizeOf' (hG.ty _ _ hte), Int.toNat_natCast]
              congr 3
              unfold Addr.add
              split
              · rename_i h0; simp [h0]
              · rfl
          · cases h
        · rename_i e id off len cp sk hd
          rw [hd] at hu
          obtain ⟨p, hp, eX⟩ := conc_slice hX
          split at h
          · rename_i te hte
            cases c : Nat.blt n len with
            | false => rw [c] at h; cases h
            | true =>
              rw [c] at h; cases h
              have hlt : n < len := by simpa using c
              refine ⟨.pointer (some ⟨p.1, off + n * te.size, none⟩), by simp only [AV.conc, hp]; rfl, lift (fun w => ?_)⟩
              have hb : (0 : Int) ≤ (n : Int) ∧ (n : Int) < (len : Int) := by omega
              simp only [Instr.indexAt, hI, asIntOf, Sem.run_bind, Sem.run_pure, Result.andThen_ok, run_underlying hu, eX, Sem.run_ite, if_pos hb, run_sizeOf' (hG.ty _ _ hte), Int.toNat_natCast]
              congr 3
              unfold Addr.add
              split
              · rename_i h0; simp [h0]
              · rfl
          · cases h
        · cases h
      · cases h
    · cases h
  · -- index
    rename_i t x i
    split at h
    · rename_i X I ti hx hi hti
      have hX := evO_ok hA hg hx
      have hu := (hG.ty _ _ hti).desc
      split at h
      · rename_i n hn
        obtain ⟨k, hI⟩ := natOf_ok hn (evO_ok hA hg hi)
        split at h
        · rename_i m e cs hd
          rw [hd] at hu
          obtain ⟨vs, eX, hl⟩ := conc_agg hX
          split at h
          · rename_i te hte
            cases c : Nat.blt n m with
            | false => rw [c] at h; cases h
            | true =>
              rw [c] at h; simp only [cond_true] at h
              have hlt : n < m := by simpa using c
              obtain ⟨R, h1, h2⟩ := partT_ok hG.ty h hl
              refine ⟨R, h1, lift (fun w => ?_)⟩
              have hb : (0 : Int) ≤ (n : Int) ∧ (n : Int) < (m : Int) := by omega
              simp only [Instr.index, hI, asIntOf, Sem.run_bind, Sem.run_pure, Result.andThen_ok, run_underlying hu, eX, Sem.run_ite, if_pos hb, run_sizeOf' (hG.ty _ _ hte), Int.toNat_natCast]
              exact h2 w
          · cases h
        · rename_i l hd
          rw [hd] at hu
          simp only [AV.conc, Option.some.injEq] at hX
          split at h
          · rename_i b hb; cases h
            rw [lget_eq] at hb
            refine ⟨_, rfl, lift (fun w => ?_)⟩
            have hb0 : (0 : Int) ≤ (n : Int) := by omega
            have hb2 : (⟨l.toArray⟩ : ByteArray)[n]? = some b := by
              have hl : n < l.length := (List.getElem?_eq_some_iff.1 hb).1
              have hs : n < (⟨l.toArray⟩ : ByteArray).size := by simpa [ByteArray.size] using hl
              rw [getElem?_pos (⟨l.toArray⟩ : ByteArray) n hs]
              congr 1
              have := (List.getElem?_eq_some_iff.1 hb).2
              rw [← this]; rfl
            simp only [Instr.index, hI, asIntOf, Sem.run_bind, Sem.run_pure, Result.andThen_ok, run_underlying hu, ← hX, if_pos hb0, Int.toNat_natCast, hb2]
            rfl
          · cases h
        · cases h
      · cases h
    · cases h
  · -- extract
    rename_i t i
    split at h
    · rename_i l hx
      obtain ⟨vs, e, hl⟩ := conc_tup (evO_ok hA hg hx)
      obtain ⟨x, h1, h2⟩ := part_lget hl h
      refine ⟨x, h2, lift (fun w => ?_)⟩
      have : vs.toArray[i]? = some x := by simpa using h1
      simp only [e, Instr.extract, this, Sem.run_pure]
    · cases h
  · -- a builtin
    rename_i c
    obtain ⟨callee, args, argTypes⟩ := c
    simp only at h
    split at h
    · rename_i b
      split at h
      · rename_i as has
        obtain ⟨R, h1, h2⟩ := pureB_ok hG type (args.map fun | .const _ => true | _ => false) h (evL_ok hA hg has)
        refine ⟨R, h1, fun w => ?_⟩
        have e : (args.map A.eval) = (args.toList.map A.eval).toArray := by apply Array.ext'; simp
        simp only [execOp, resolve, Sem.run_bind, Sem.run_pure, Result.andThen_ok, invoke, e]
        exact h2 w
      · cases h
    · cases h
  · cases h
end
end Go.Proofs.YtfpfagmmdiohbaaGreatDoor.Ev
