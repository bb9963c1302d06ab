/-
  The engine is sound, 2: values, the heap.
-/
import Derived.Test.YtfpfagmmdiohbaaGreatDoorEvS1
import Derived.Below
set_option linter.unusedVariables false
set_option linter.unusedSimpArgs false
namespace Go.Proofs.YtfpfagmmdiohbaaGreatDoor.Ev

/-! ### Values -/
structure Ext (V V' : Env) : Prop where
  σ : V'.σ = V.σ
  τ : V'.τ = V.τ
  E : ∀ id p, V.E id = some p → V'.E id = some p
  L : ∀ id c, V.L id = some c → V'.L id = some c

theorem Ext.refl (V : Env) : Ext V V := ⟨rfl, rfl, fun _ _ h => h, fun _ _ h => h⟩
theorem Ext.trans {A B C : Env} (h : Ext A B) (k : Ext B C) : Ext A C :=
  ⟨k.σ.trans h.σ, k.τ.trans h.τ, fun i p e => k.E i p (h.E i p e), fun i p e => k.L i p (h.L i p e)⟩

theorem conc_mono {V V' : Env} (h : Ext V V') (v : AV) : ∀ x, v.conc V = some x → v.conc V' = some x := by
  induction v using AV.rec (motive_2 := fun l => ∀ vs, concL V l = some vs → concL V' l = some vs) with
  | bool b => intro x hx; exact hx
  | int k e => intro x hx; simp only [AV.conc] at *; rw [h.σ]; exact hx
  | str l => intro x hx; exact hx
  | ptr id off =>
    intro x hx; simp only [AV.conc] at *
    split at hx
    · rename_i p hp; rw [h.E _ _ hp]; exact hx
    · cases hx
  | nilp => intro x hx; exact hx
  | slice id off len cap skip =>
    intro x hx; simp only [AV.conc] at *
    split at hx
    · rename_i p hp; rw [h.E _ _ hp]; exact hx
    · cases hx
  | nils => intro x hx; exact hx
  | map id =>
    intro x hx; simp only [AV.conc] at *
    split at hx
    · rename_i p hp; rw [h.E _ _ hp]; exact hx
    · cases hx
  | nilm => intro x hx; exact hx
  | func fn f c ih1 ih2 =>
    intro x hx; simp only [AV.conc] at *
    split at hx
    · rename_i f' c' hf hc
      have e1 : AV.conc.concL V' f = some f' := ih1 _ hf
      have e2 : AV.conc.concL V' c = some c' := ih2 _ hc
      rw [e1, e2]; exact hx
    · cases hx
  | yield id =>
    intro x hx; simp only [AV.conc] at *
    split at hx
    · rename_i p hp; rw [h.E _ _ hp]; exact hx
    · cases hx
  | nilf => intro x hx; exact hx
  | nili => intro x hx; exact hx
  | agg l ih =>
    intro x hx; simp only [AV.conc] at *
    split at hx
    · rename_i l' hl
      have e1 : AV.conc.concL V' l = some l' := ih _ hl
      rw [e1]; exact hx
    · cases hx
  | tup l ih =>
    intro x hx; simp only [AV.conc] at *
    split at hx
    · rename_i l' hl
      have e1 : AV.conc.concL V' l = some l' := ih _ hl
      rw [e1]; exact hx
    · cases hx
  | opq i => intro x hx; simp only [AV.conc] at *; rw [h.τ]; exact hx
  | nil => assumption
  | cons x xs ih1 ih2 =>
    rename_i vs hv
    simp only [concL, AV.conc.concL] at *
    split at hv
    · rename_i a b ha hb
      rw [ih1 _ ha, ih2 _ hb]; exact hv
    · cases hv

theorem concL_nil (V : Env) : concL V [] = some [] := rfl
theorem concL_cons {V : Env} {x : AV} {xs : List AV} {vs : List Value} (h : concL V (x :: xs) = some vs) : ∃ v r, vs = v :: r ∧ x.conc V = some v ∧ concL V xs = some r := by
  simp only [concL, AV.conc.concL] at h
  split at h
  · rename_i a b ha hb; cases h; exact ⟨a, b, rfl, ha, hb⟩
  · cases h
theorem concL_mk {V : Env} {x : AV} {xs : List AV} {v : Value} {r : List Value} (h : x.conc V = some v) (k : concL V xs = some r) : concL V (x :: xs) = some (v :: r) := by
  simp only [concL, AV.conc.concL] at *; rw [h, k]

/-- Cell by cell. -/
theorem concL_pt {V : Env} : ∀ {l : List AV} {vs : List Value}, concL V l = some vs ↔ l.length = vs.length ∧ ∀ (i : Nat) (a : AV) (x : Value), l[i]? = some a → vs[i]? = some x → a.conc V = some x := by
  intro l
  induction l with
  | nil =>
    intro vs
    constructor
    · intro h; cases h; simp
    · intro h; have := List.length_eq_zero_iff.1 h.1.symm; subst this; rfl
  | cons y ys ih =>
    intro vs
    constructor
    · intro h
      obtain ⟨v, r, rfl, hv, hr⟩ := concL_cons h
      obtain ⟨h1, h2⟩ := ih.1 hr
      refine ⟨by simp [h1], ?_⟩
      intro i a x ha hx
      cases i with
      | zero => simp at ha hx; rw [← ha, ← hx]; exact hv
      | succ i => simp at ha hx; exact h2 i a x ha hx
    · rintro ⟨h1, h2⟩
      cases vs with
      | nil => simp at h1
      | cons v r =>
        refine concL_mk (h2 0 y v (by simp) (by simp)) (ih.2 ⟨by simpa using h1, fun i a x ha hx => h2 (i + 1) a x (by simpa using ha) (by simpa using hx)⟩)
theorem concL_len {V : Env} {l : List AV} {vs : List Value} (h : concL V l = some vs) : vs.length = l.length := (concL_pt.1 h).1.symm
theorem concL_get {V : Env} {l : List AV} {vs : List Value} (h : concL V l = some vs) {i : Nat} {a : AV} (ha : l[i]? = some a) : ∃ x, vs[i]? = some x ∧ a.conc V = some x := by
  obtain ⟨h1, h2⟩ := concL_pt.1 h
  have hi : i < l.length := (List.getElem?_eq_some_iff.1 ha).1
  exact ⟨vs[i], List.getElem?_eq_getElem (by omega), h2 i a _ ha (List.getElem?_eq_getElem (by omega))⟩
theorem concL_mono {V V' : Env} (h : Ext V V') {l : List AV} {vs : List Value} (hl : concL V l = some vs) : concL V' l = some vs := by
  obtain ⟨h1, h2⟩ := concL_pt.1 hl
  exact concL_pt.2 ⟨h1, fun i a x ha hx => conc_mono h a x (h2 i a x ha hx)⟩
theorem concL_app {V : Env} {l m : List AV} {vs us : List Value} (h : concL V l = some vs) (k : concL V m = some us) : concL V (l ++ m) = some (vs ++ us) := by
  induction l generalizing vs with
  | nil => cases h; exact k
  | cons x xs ih =>
    obtain ⟨v, r, rfl, hv, hr⟩ := concL_cons h
    exact concL_mk hv (ih hr)
theorem concL_drop {V : Env} {l : List AV} {vs : List Value} (h : concL V l = some vs) (n : Nat) : concL V (l.drop n) = some (vs.drop n) := by
  obtain ⟨h1, h2⟩ := concL_pt.1 h
  exact concL_pt.2 ⟨by simp [h1], fun i a x ha hx => h2 (n + i) a x (by simpa using ha) (by simpa using hx)⟩
theorem concL_take {V : Env} {l : List AV} {vs : List Value} (h : concL V l = some vs) (n : Nat) : concL V (l.take n) = some (vs.take n) := by
  obtain ⟨h1, h2⟩ := concL_pt.1 h
  refine concL_pt.2 ⟨by simp [h1], fun i a x ha hx => ?_⟩
  rw [List.getElem?_take] at ha hx
  split at ha
  · rename_i hlt; rw [if_pos hlt] at hx; exact h2 i a x ha hx
  · cases ha
theorem concL_ltake {V : Env} {l r : List AV} {vs : List Value} {n off : Nat} (h : concL V l = some vs) (ht : ltake n (ldrop l off) = some r) :
    concL V r = some ((vs.drop off).take n) ∧ off + n ≤ vs.length ∧ r.length = n ∨ concL V r = some [] ∧ n = 0 ∧ r = [] := by
  obtain ⟨h1, h2, h3⟩ := ltake_some _ _ _ ht
  rw [ldrop_eq] at h1 h3
  by_cases hn : n = 0
  · right; subst hn; simp at h1; subst h1; exact ⟨rfl, rfl, rfl⟩
  · left
    refine ⟨by rw [h1]; exact concL_take (concL_drop h off) n, ?_, h2⟩
    simp at h3; have := concL_len h; omega
theorem concL_set {V : Env} {l : List AV} {vs : List Value} (h : concL V l = some vs) {a : AV} {x : Value} (ha : a.conc V = some x) (n : Nat) : concL V (l.set n a) = some (vs.set n x) := by
  obtain ⟨h1, h2⟩ := concL_pt.1 h
  refine concL_pt.2 ⟨by simp [h1], fun i b y hb hy => ?_⟩
  rw [List.getElem?_set] at hb hy
  by_cases hn : n = i
  · subst hn
    simp only [if_true] at hb hy
    by_cases hl : n < l.length
    · rw [if_pos hl] at hb; rw [if_pos (by omega)] at hy; cases hb; cases hy; exact ha
    · rw [if_neg hl] at hb; cases hb
  · rw [if_neg hn] at hb hy; exact h2 i b y hb hy
/-- Values that are stored one behind the other. -/
def setAll : List Value → Nat → List Value → List Value
  | l, _, [] => l
  | l, k, x :: xs => setAll (l.set k x) (k + 1) xs
theorem setAll_length : ∀ (xs l : List Value) (k : Nat), (setAll l k xs).length = l.length := by
  intro xs; induction xs with
  | nil => intro l k; rfl
  | cons x xs ih => intro l k; simp [setAll, ih]
theorem concL_setAll {V : Env} : ∀ {ws : List AV} {us : List Value} {l : List AV} {vs : List Value} (n : Nat), concL V l = some vs → concL V ws = some us → concL V (lsetAll l n ws) = some (setAll vs n us) := by
  intro ws
  induction ws with
  | nil => intro us l vs n h k; cases k; exact h
  | cons x xs ih =>
    intro us l vs n h k
    obtain ⟨v, r, rfl, hv, hr⟩ := concL_cons k
    have e : lsetAll l n (x :: xs) = lsetAll (l.set n x) (n + 1) xs := by simp [lsetAll, lset_eq]
    rw [e]
    exact ih (n + 1) (concL_set h hv n) hr

theorem conc_agg {V : Env} {l : List AV} {x : Value} (h : (AV.agg l).conc V = some x) : ∃ vs, x = .agg vs.toArray ∧ concL V l = some vs := by
  simp only [AV.conc] at h
  split at h
  · rename_i vs hv; cases h; exact ⟨vs, rfl, hv⟩
  · cases h
theorem conc_tup {V : Env} {l : List AV} {x : Value} (h : (AV.tup l).conc V = some x) : ∃ vs, x = .tuple vs.toArray ∧ concL V l = some vs := by
  simp only [AV.conc] at h
  split at h
  · rename_i vs hv; cases h; exact ⟨vs, rfl, hv⟩
  · cases h
theorem conc_ptr {V : Env} {id off : Nat} {x : Value} (h : (AV.ptr id off).conc V = some x) : ∃ p, V.E id = some p ∧ x = .pointer (some ⟨p.1, off, none⟩) := by
  simp only [AV.conc] at h
  split at h
  · rename_i p hp; cases h; exact ⟨p, hp, rfl⟩
  · cases h
theorem conc_slice {V : Env} {id off len skip : Nat} {cap : Option Nat} {x : Value} (h : (AV.slice id off len cap skip).conc V = some x) :
    ∃ p, V.E id = some p ∧ x = .slice (some ⟨p.1, off, none⟩) len (capOf cap p.2 skip) := by
  simp only [AV.conc] at h
  split at h
  · rename_i p hp; cases h; exact ⟨p, hp, rfl⟩
  · cases h
theorem conc_map {V : Env} {id : Nat} {x : Value} (h : (AV.map id).conc V = some x) : ∃ p, V.E id = some p ∧ x = .map (some p.1) := by
  simp only [AV.conc] at h
  split at h
  · rename_i p hp; cases h; exact ⟨p, hp, rfl⟩
  · cases h
theorem conc_yield {V : Env} {id : Nat} {x : Value} (h : (AV.yield id).conc V = some x) : ∃ p, V.E id = some p ∧ x = .func (.yield p.1) #[] #[] := by
  simp only [AV.conc] at h
  split at h
  · rename_i p hp; cases h; exact ⟨p, hp, rfl⟩
  · cases h
theorem conc_func {V : Env} {fn : Fn} {f c : List AV} {x : Value} (h : (AV.func fn f c).conc V = some x) : ∃ fs cs, concL V f = some fs ∧ concL V c = some cs ∧ x = .func fn fs.toArray cs.toArray := by
  simp only [AV.conc] at h
  split at h
  · rename_i fs cs hf hc; cases h; exact ⟨fs, cs, hf, hc, rfl⟩
  · cases h
theorem agg_mk {V : Env} {l : List AV} {vs : List Value} (h : concL V l = some vs) : (AV.agg l).conc V = some (.agg vs.toArray) := by
  have : AV.conc.concL V l = some vs := h
  simp only [AV.conc, this]
theorem tup_mk {V : Env} {l : List AV} {vs : List Value} (h : concL V l = some vs) : (AV.tup l).conc V = some (.tuple vs.toArray) := by
  have : AV.conc.concL V l = some vs := h
  simp only [AV.conc, this]
theorem func_mk {V : Env} {fn : Fn} {f c : List AV} {fs cs : List Value} (h : concL V f = some fs) (k : concL V c = some cs) : (AV.func fn f c).conc V = some (.func fn fs.toArray cs.toArray) := by
  have h1 : AV.conc.concL V f = some fs := h
  have h2 : AV.conc.concL V c = some cs := k
  simp only [AV.conc, h1, h2]

/-- Opaque values are of one cell. -/
def TauOk (V : Env) : Prop := ∀ i cs, V.τ i ≠ .agg cs

theorem conc_cells {V : Env} (hτ : TauOk V) {v : AV} {x : Value} (h : v.conc V = some x) : concL V v.cells = some x.cells.toList := by
  cases v with
  | agg l => obtain ⟨vs, rfl, hv⟩ := conc_agg h; simpa [AV.cells, Value.cells] using hv
  | opq i =>
    simp only [AV.conc] at h
    cases h
    have : (V.τ i).cells = #[V.τ i] := by
      unfold Value.cells
      split
      · rename_i cs e; exact absurd e (hτ i cs)
      · rfl
    rw [this]; simp only [AV.cells]; exact concL_mk rfl (concL_nil V)
  | _ =>
    all_goals
      have hx : x.cells = #[x] := by
        simp only [AV.conc] at h
        first
          | (cases h; rfl)
          | (split at h <;> cases h <;> rfl)
      rw [hx]
      simp only [AV.cells]
      exact concL_mk h (concL_nil V)
theorem one_oneCell {V : Env} {v : AV} {x : Value} (h : v.conc V = some x) (h1 : v.one = true) : x.oneCell' = true := by
  cases v <;> simp [AV.one] at h1 <;> simp only [AV.conc] at h <;>
    first
      | (cases h; rfl)
      | (split at h <;> cases h <;> rfl)
theorem allOne_oneCell {V : Env} : ∀ {l : List AV} {vs : List Value}, concL V l = some vs → allOne l = true → ∀ v ∈ vs, v.oneCell' = true := by
  intro l
  induction l with
  | nil => intro vs h _ v hv; cases h; cases hv
  | cons y ys ih =>
    intro vs h h1 v hv
    obtain ⟨a, r, rfl, ha, hr⟩ := concL_cons h
    simp [allOne] at h1
    cases hv with
    | head => exact one_oneCell ha h1.1
    | tail _ hv => exact ih hr h1.2 v hv

theorem lift1_ok (V : Env) {x : Value} {v : AV} (h : lift1 x = some v) : v.conc V = some x := by
  unfold lift1 at h
  split at h <;> cases h <;> rfl
theorem liftL_ok (V : Env) : ∀ {xs : List Value} {l : List AV}, liftL xs = some l → concL V l = some xs := by
  intro xs
  induction xs with
  | nil => intro l h; cases h; rfl
  | cons x xs ih =>
    intro l h
    simp only [liftL] at h
    split at h
    · rename_i a b ha hb; cases h; exact concL_mk (lift1_ok V ha) (ih hb)
    · cases h
theorem lift_ok (V : Env) {x : Value} {v : AV} (h : lift x = some v) : v.conc V = some x := by
  unfold lift at h
  split at h
  · rename_i cs; split at h
    · rename_i l hl; cases h; simpa using agg_mk (liftL_ok V hl)
    · cases h
  · rename_i cs; split at h
    · rename_i l hl; cases h; simpa using tup_mk (liftL_ok V hl)
    · cases h
  · exact lift1_ok V h


/-! ### The heap -/
open Go.RowKit
theorem heap_alloc (w : World) (o : Obj) (k : Nat) : (w.alloc o).heap[k]? = if k = w.heap.size then some o else w.heap[k]? := by
  show (w.heap.push o)[k]? = _
  rw [Array.getElem?_push]
theorem size_alloc (w : World) (o : Obj) : (w.alloc o).heap.size = w.heap.size + 1 := by
  show (w.heap.push o).size = _
  simp

def NoFz (fz : Nat × Nat) (n : Nat) : Prop := ∀ o, o < n → ¬ (fz.1 ≤ o ∧ o < fz.2)

def TmOk (V : Env) (t : Tr AV) (n : Nat) (tm : Array Value) : Prop :=
  tm.size = n ∧ ∀ k, (match t.get k with | some v => v | none => undefA).conc V = some (tm.getD k undef)

def EntOk (V : Env) : List (AV × AV × Nat) → List MapEntry → Prop
  | [], [] => True
  | (k, v, b) :: l, e :: m => k.conc V = some e.key ∧ v.conc V = some e.val ∧ b = e.born ∧ EntOk V l m
  | _, _ => False

/-- What a block of the abstract heap says of the block p.1. -/
def BlkO (P : Program) (V : Env) (b : Blk) (id : Nat) (p : Nat × Nat) (o : Option Obj) : Prop :=
  match b with
  | .cells l e => ∃ vs fz, concL V l = some vs ∧ o = some (.cells vs.toArray e fz) ∧ NoFz fz vs.length
  | .row l e => ∃ vs rest fz, concL V l = some vs ∧ o = some (.cells (vs ++ rest).toArray e fz) ∧ NoFz fz (vs.length + rest.length) ∧
      ∀ i, P.info? e = some i → vs.length + rest.length = p.2 * i.size
  | .ro l => ∃ vs rest e fz, concL V l = some vs ∧ o = some (.cells (vs ++ rest).toArray e fz)
  | .map es clock => ∃ ms, EntOk V es ms ∧ o = some (.map ms.toArray clock)
  | .defd => o = some (.deferred (some []))
  | .loop st pe t n d => ∃ fn lc pd tm, V.L id = some lc ∧ V.E d = some pd ∧ TmOk V t n tm ∧
      o = some (.loop { state := st, pending := jumpOf pe, fn := fn, tmps := tm, params := lc.params, assign := lc.assign, body := lc.body, defers := pd.1 })
  | .dead => True

def owned : Blk → Bool
  | .dead | .ro _ => false
  | _ => true
def isRo : Blk → Bool
  | .ro _ => true
  | _ => false

theorem EntOk_mono {V V' : Env} (h : Ext V V') : ∀ {es : List (AV × AV × Nat)} {ms : List MapEntry}, EntOk V es ms → EntOk V' es ms := by
  intro es
  induction es with
  | nil => intro ms hm; cases ms <;> first | trivial | exact hm.elim
  | cons e es ih =>
    intro ms hm
    cases ms with
    | nil => exact hm.elim
    | cons m ms =>
      obtain ⟨k, v, b⟩ := e
      exact ⟨conc_mono h _ _ hm.1, conc_mono h _ _ hm.2.1, hm.2.2.1, ih hm.2.2.2⟩
theorem TmOk_mono {V V' : Env} (h : Ext V V') {t : Tr AV} {n : Nat} {tm : Array Value} (k : TmOk V t n tm) : TmOk V' t n tm :=
  ⟨k.1, fun i => conc_mono h _ _ (k.2 i)⟩
theorem BlkO_mono {P : Program} {V V' : Env} (h : Ext V V') {b : Blk} {id : Nat} {p : Nat × Nat} {o : Option Obj} (k : BlkO P V b id p o) : BlkO P V' b id p o := by
  cases b with
  | cells l e => obtain ⟨vs, fz, h1, h2, h3⟩ := k; exact ⟨vs, fz, concL_mono h h1, h2, h3⟩
  | row l e => obtain ⟨vs, rest, fz, h1, h2, h3, h4⟩ := k; exact ⟨vs, rest, fz, concL_mono h h1, h2, h3, h4⟩
  | ro l => obtain ⟨vs, rest, e, fz, h1, h2⟩ := k; exact ⟨vs, rest, e, fz, concL_mono h h1, h2⟩
  | map es c => obtain ⟨ms, h1, h2⟩ := k; exact ⟨ms, EntOk_mono h h1, h2⟩
  | defd => exact k
  | loop st pe t n d => obtain ⟨fn, lc, pd, tm, h1, h2, h3, h4⟩ := k; exact ⟨fn, lc, pd, tm, h.L _ _ h1, h.E _ _ h2, TmOk_mono h h3, h4⟩
  | dead => trivial

/-- The abstract heap holds of a world, which is as B was below B's size. -/
structure Rel (P : Program) (V : Env) (s : S) (B w : World) : Prop where
  τ : TauOk V
  below : Below B.heap.size B w
  blk : ∀ id b, s.heap.get id = some b → ∃ p, V.E id = some p ∧ BlkO P V b id p w.heap[p.1]? ∧ (owned b = true → B.heap.size ≤ p.1) ∧ (isRo b = true → p.1 < B.heap.size)
  dom : ∀ id p, V.E id = some p → ∃ b, s.heap.get id = some b
  domL : ∀ id c, V.L id = some c → ∃ b, s.heap.get id = some b
  inj : ∀ id id' b b' p p', s.heap.get id = some b → s.heap.get id' = some b' → owned b = true → owned b' = true → V.E id = some p → V.E id' = some p' → p.1 = p'.1 → id = id'
  glob : ∀ g p, V.E (2 * g + 1) = some p → p.1 = g

def orL : Option LC → Option LC → Option LC
  | some c, _ => some c
  | none, o => o
def Env.bind (V : Env) (id : Nat) (p : Nat × Nat) (lc : Option LC) : Env :=
  { V with E := fun j => if j = id then some p else V.E j, L := fun j => if j = id then orL lc (V.L j) else V.L j }

theorem Rel.fresh {P : Program} {V : Env} {s : S} {B w : World} (h : Rel P V s B w) {id : Nat} (hf : s.heap.get id = none) : V.E id = none ∧ V.L id = none := by
  constructor
  · cases he : V.E id with
    | none => rfl
    | some p => obtain ⟨b, hb⟩ := h.dom id p he; rw [hf] at hb; cases hb
  · cases he : V.L id with
    | none => rfl
    | some p => obtain ⟨b, hb⟩ := h.domL id p he; rw [hf] at hb; cases hb
theorem Rel.ext {P : Program} {V : Env} {s : S} {B w : World} (h : Rel P V s B w) {id : Nat} (hf : s.heap.get id = none) (p : Nat × Nat) (lc : Option LC) : Ext V (V.bind id p lc) := by
  obtain ⟨h1, h2⟩ := h.fresh hf
  refine ⟨rfl, rfl, fun j q hq => ?_, fun j c hc => ?_⟩
  · show (if j = id then some p else V.E j) = some q
    rw [if_neg (fun e => by subst e; rw [h1] at hq; cases hq)]; exact hq
  · show (if j = id then orL lc (V.L j) else V.L j) = some c
    rw [if_neg (fun e => by subst e; rw [h2] at hc; cases hc)]; exact hc

theorem newB_some {s : S} {b : Blk} {id : Nat} {s' : S} (h : newB s b = some (id, s')) :
    id % 2 = 0 ∧ id < big ∧ s.heap.get id = none ∧ s'.heap = Tr.set 64 s.heap id b := by
  unfold newB at h
  cases c : (Nat.beq (Nat.mod s.next 2) 0 && Nat.blt s.next big) with
  | false => rw [c] at h; cases h
  | true =>
    rw [c] at h; simp only [cond_true] at h
    simp at c
    split at h
    · cases h
    · rename_i hg; cases h; exact ⟨c.1, c.2, hg, rfl⟩

/-- A new block. -/
theorem Rel.new {P : Program} {V : Env} {s s' : S} {B w : World} {b : Blk} {id : Nat} {o : Obj} {cap : Nat} {lc : Option LC} (h : Rel P V s B w) (hn : newB s b = some (id, s')) (ho : owned b = true)
    (hl : lc = none ∨ ∃ st pe t n d, b = .loop st pe t n d)
    (hb : BlkO P (V.bind id (w.heap.size, cap) lc) b id (w.heap.size, cap) (some o)) :
    Rel P (V.bind id (w.heap.size, cap) lc) s' B (w.alloc o) ∧ Ext V (V.bind id (w.heap.size, cap) lc) ∧ (V.bind id (w.heap.size, cap) lc).E id = some (w.heap.size, cap) := by
  obtain ⟨h0, h1, h2, h3⟩ := newB_some hn
  have hx := h.ext h2 (w.heap.size, cap) lc
  have hg : ∀ j, s'.heap.get j = if j = id then some b else s.heap.get j := fun j => by rw [h3]; exact Tr.get_set64 _ _ _ _ h1
  have hE : ∀ j, (V.bind id (w.heap.size, cap) lc).E j = if j = id then some (w.heap.size, cap) else V.E j := fun j => rfl
  have hL : ∀ j, (V.bind id (w.heap.size, cap) lc).L j = if j = id then orL lc (V.L j) else V.L j := fun j => rfl
  refine ⟨⟨?_, ?_, ?_, ?_, ?_, ?_, ?_⟩, hx, by rw [hE]; simp⟩
  · exact h.τ
  · exact h.below.alloc h.below.size o
  · intro j c hc
    rw [hg] at hc
    by_cases hj : j = id
    · subst hj; rw [if_pos rfl] at hc; cases hc
      refine ⟨(w.heap.size, cap), by rw [hE]; simp, ?_, fun _ => h.below.size, fun hr => ?_⟩
      · rw [heap_alloc]; simpa using hb
      · cases b <;> simp [owned, isRo] at ho hr
    · rw [if_neg hj] at hc
      obtain ⟨p, hp, hB, hO, hR⟩ := h.blk j c hc
      refine ⟨p, by rw [hE, if_neg hj]; exact hp, ?_, hO, hR⟩
      by_cases hs : p.1 = w.heap.size
      · -- nothing lies there yet
        have hno : w.heap[p.1]? = none := Array.getElem?_eq_none (by omega)
        rw [hno] at hB
        cases c with
        | dead => trivial
        | cells l e => obtain ⟨vs, fz, _, e2, _⟩ := hB; cases e2
        | row l e => obtain ⟨vs, r, fz, _, e2, _⟩ := hB; cases e2
        | ro l => obtain ⟨vs, r, e, fz, _, e2⟩ := hB; cases e2
        | map es c => obtain ⟨ms, _, e2⟩ := hB; cases e2
        | defd => cases hB
        | loop st pe t n d => obtain ⟨_, _, _, _, _, _, _, e2⟩ := hB; cases e2
      · rw [heap_alloc, if_neg hs]; exact BlkO_mono hx hB
  · intro j p hp
    rw [hg]
    by_cases hj : j = id
    · rw [if_pos hj]; exact ⟨b, rfl⟩
    · rw [if_neg hj]; rw [hE, if_neg hj] at hp; exact h.dom j p hp
  · intro j p hp
    rw [hg]
    by_cases hj : j = id
    · rw [if_pos hj]; exact ⟨b, rfl⟩
    · rw [if_neg hj]; rw [hL, if_neg hj] at hp; exact h.domL j p hp
  · intro j j' c c' p p' hc hc' hoc hoc' hp hp' he
    rw [hg] at hc hc'; rw [hE] at hp hp'
    have lt : ∀ k d q, s.heap.get k = some d → owned d = true → V.E k = some q → q.1 ≠ w.heap.size := by
      intro k d q hk hd hq e
      obtain ⟨q', hq', hB, _, _⟩ := h.blk k d hk
      rw [hq] at hq'; cases hq'
      have hno : w.heap[q.1]? = none := Array.getElem?_eq_none (by omega)
      rw [hno] at hB
      cases d with
      | dead => simp [owned] at hd
      | cells l e => obtain ⟨vs, fz, _, e2, _⟩ := hB; cases e2
      | row l e => obtain ⟨vs, r, fz, _, e2, _⟩ := hB; cases e2
      | ro l => simp [owned] at hd
      | map es c => obtain ⟨ms, _, e2⟩ := hB; cases e2
      | defd => cases hB
      | loop st pe t n d => obtain ⟨_, _, _, _, _, _, _, e2⟩ := hB; cases e2
    by_cases hj : j = id
    · by_cases hj' : j' = id
      · rw [hj, hj']
      · rw [if_pos hj] at hp; rw [if_neg hj'] at hp' hc'
        cases hp
        exact absurd he.symm (lt j' c' p' hc' hoc' hp')
    · by_cases hj' : j' = id
      · rw [if_neg hj] at hp hc; rw [if_pos hj'] at hp'
        cases hp'
        exact absurd he (lt j c p hc hoc hp)
      · rw [if_neg hj] at hp hc; rw [if_neg hj'] at hp' hc'
        exact h.inj j j' c c' p p' hc hc' hoc hoc' hp hp' he
  · intro g p hp
    rw [hE] at hp
    rw [if_neg (by omega)] at hp
    exact h.glob g p hp

/-- A block of the run's own is turned. -/
theorem Rel.turn {P : Program} {V : Env} {s s' : S} {B w w' : World} {b b' : Blk} {id : Nat} {p : Nat × Nat} (h : Rel P V s B w) (hid : id < big) (hs : s'.heap = Tr.set 64 s.heap id b')
    (hb : s.heap.get id = some b) (ho : owned b = true) (hr : isRo b' = false) (hp : V.E id = some p) (hw : ∀ k, k ≠ p.1 → w'.heap[k]? = w.heap[k]?) (hsz : w'.heap.size = w.heap.size)
    (hos : w'.os = w.os) (htp : w'.tape = w.tape) (hou : w'.output = w.output) (hB : BlkO P V b' id p w'.heap[p.1]?) : Rel P V s' B w' := by
  have hg : ∀ j, s'.heap.get j = if j = id then some b' else s.heap.get j := fun j => by rw [hs]; exact Tr.get_set64 _ _ _ _ hid
  obtain ⟨p0, hp0, _, hO, _⟩ := h.blk id b hb
  rw [hp] at hp0; cases hp0
  refine ⟨h.τ, ?_, ?_, ?_, ?_, ?_, h.glob⟩
  · exact h.below.trans ⟨hos, htp, hou, by omega, fun k hk => hw k (by have := hO ho; omega)⟩
  · intro j c hc
    rw [hg] at hc
    by_cases hj : j = id
    · subst hj; rw [if_pos rfl] at hc; cases hc
      exact ⟨p, hp, hB, fun _ => hO ho, fun e => by rw [hr] at e; cases e⟩
    · rw [if_neg hj] at hc
      obtain ⟨q, hq, hBq, hOq, hRq⟩ := h.blk j c hc
      refine ⟨q, hq, ?_, hOq, hRq⟩
      by_cases hd : owned c = true
      · rw [hw q.1 (fun e => hj (h.inj j id c b q p hc hb hd ho hq hp e))]; exact hBq
      · cases c with
        | dead => trivial
        | ro l => have h1 := hRq rfl; have h2 := hO ho; rw [hw q.1 (by omega)]; exact hBq
        | _ => simp [owned] at hd
  · intro j q hq
    rw [hg]
    by_cases hj : j = id
    · rw [if_pos hj]; exact ⟨b', rfl⟩
    · rw [if_neg hj]; exact h.dom j q hq
  · intro j q hq
    rw [hg]
    by_cases hj : j = id
    · rw [if_pos hj]; exact ⟨b', rfl⟩
    · rw [if_neg hj]; exact h.domL j q hq
  · intro j j' c c' q q' hc hc' hoc hoc' hq hq' he
    rw [hg] at hc hc'
    by_cases hj : j = id
    · subst hj
      by_cases hj' : j' = j
      · exact hj'.symm
      · rw [if_neg hj'] at hc'
        exact h.inj j j' b c' q q' hb hc' ho hoc' hq hq' he
    · rw [if_neg hj] at hc
      by_cases hj' : j' = id
      · subst hj'; exact h.inj j j' c b q q' hc hb hoc ho hq hq' he
      · rw [if_neg hj'] at hc'; exact h.inj j j' c c' q q' hc hc' hoc hoc' hq hq' he

/-- A block that is let go, and a new name for where it lay. -/
theorem Rel.rename {P : Program} {V : Env} {s s1 s' : S} {B w w' : World} {b b' : Blk} {id id' : Nat} {p : Nat × Nat} {cap : Nat} (h : Rel P V s B w) (hid : id < big)
    (hb : s.heap.get id = some b) (ho : owned b = true) (hp : V.E id = some p) (h1 : s1.heap = Tr.set 64 s.heap id .dead) (hn : newB s1 b' = some (id', s')) (ho' : owned b' = true)
    (hw : ∀ k, k ≠ p.1 → w'.heap[k]? = w.heap[k]?) (hsz : w'.heap.size = w.heap.size) (hos : w'.os = w.os) (htp : w'.tape = w.tape) (hou : w'.output = w.output)
    (hB : BlkO P (V.bind id' (p.1, cap) none) b' id' (p.1, cap) w'.heap[p.1]?) :
    Rel P (V.bind id' (p.1, cap) none) s' B w' ∧ Ext V (V.bind id' (p.1, cap) none) ∧ (V.bind id' (p.1, cap) none).E id' = some (p.1, cap) := by
  have hr1 : Rel P V s1 B w' := h.turn (b' := .dead) hid h1 hb ho rfl hp hw hsz hos htp hou trivial
  obtain ⟨h0, hi, h2, h3⟩ := newB_some hn
  have hx := hr1.ext h2 (p.1, cap) none
  have hg : ∀ j, s'.heap.get j = if j = id' then some b' else s1.heap.get j := fun j => by rw [h3]; exact Tr.get_set64 _ _ _ _ hi
  have hg1 : ∀ j, s1.heap.get j = if j = id then some .dead else s.heap.get j := fun j => by rw [h1]; exact Tr.get_set64 _ _ _ _ hid
  have hE : ∀ j, (V.bind id' (p.1, cap) none).E j = if j = id' then some (p.1, cap) else V.E j := fun j => rfl
  have hL : ∀ j, (V.bind id' (p.1, cap) none).L j = V.L j := fun j => by show (if j = id' then orL none (V.L j) else V.L j) = V.L j; split <;> rfl
  obtain ⟨p0, hp0, _, hO, _⟩ := h.blk id b hb
  rw [hp] at hp0; cases hp0
  refine ⟨⟨h.τ, hr1.below, ?_, ?_, ?_, ?_, ?_⟩, hx, by rw [hE]; simp⟩
  · intro j c hc
    rw [hg] at hc
    by_cases hj : j = id'
    · subst hj; rw [if_pos rfl] at hc; cases hc
      exact ⟨(p.1, cap), by rw [hE]; simp, hB, fun _ => hO ho, fun e => by cases b' <;> simp [owned, isRo] at ho' e⟩
    · rw [if_neg hj] at hc
      obtain ⟨q, hq, hBq, hOq, hRq⟩ := hr1.blk j c hc
      exact ⟨q, by rw [hE, if_neg hj]; exact hq, BlkO_mono hx hBq, hOq, hRq⟩
  · intro j q hq
    rw [hg]
    by_cases hj : j = id'
    · rw [if_pos hj]; exact ⟨b', rfl⟩
    · rw [if_neg hj]; rw [hE, if_neg hj] at hq; exact hr1.dom j q hq
  · intro j q hq
    rw [hg]
    by_cases hj : j = id'
    · rw [if_pos hj]; exact ⟨b', rfl⟩
    · rw [if_neg hj]; rw [hL] at hq; exact hr1.domL j q hq
  · intro j j' c c' q q' hc hc' hoc hoc' hq hq' he
    rw [hg] at hc hc'; rw [hE] at hq hq'
    have no : ∀ k d r, k ≠ id' → s1.heap.get k = some d → owned d = true → V.E k = some r → r.1 ≠ p.1 := by
      intro k d r _ hk hd hr e
      rw [hg1] at hk
      by_cases hkid : k = id
      · rw [if_pos hkid] at hk; cases hk; simp [owned] at hd
      · rw [if_neg hkid] at hk; exact hkid (h.inj k id d b r p hk hb hd ho hr hp e)
    by_cases hj : j = id'
    · by_cases hj' : j' = id'
      · rw [hj, hj']
      · rw [if_pos hj] at hq; rw [if_neg hj'] at hq' hc'
        cases hq
        exact absurd he.symm (no j' c' q' hj' hc' hoc' hq')
    · by_cases hj' : j' = id'
      · rw [if_neg hj] at hq hc; rw [if_pos hj'] at hq'
        cases hq'
        exact absurd he (no j c q hj hc hoc hq)
      · rw [if_neg hj] at hq hc; rw [if_neg hj'] at hq' hc'
        exact hr1.inj j j' c c' q q' hc hc' hoc hoc' hq hq' he
  · intro g q hq
    rw [hE, if_neg (by omega)] at hq
    exact h.glob g q hq

theorem Rel.drew {P : Program} {V : Env} {s : S} {B w : World} (h : Rel P V s B w) (n : Nat) : Rel P V s B { w with drawn := n } :=
  ⟨h.τ, ⟨h.below.os, h.below.tape, h.below.output, h.below.size, h.below.block⟩, h.blk, h.dom, h.domL, h.inj, h.glob⟩
theorem Rel.next {P : Program} {V : Env} {s : S} {B w : World} (h : Rel P V s B w) {s' : S} (hs : s'.heap = s.heap) : Rel P V s' B w :=
  ⟨h.τ, h.below, fun id b hb => h.blk id b (hs ▸ hb), fun id p hp => by rw [hs]; exact h.dom id p hp, fun id p hp => by rw [hs]; exact h.domL id p hp,
    fun id id' b b' p p' hb hb' => h.inj id id' b b' p p' (hs ▸ hb) (hs ▸ hb'), h.glob⟩

end Go.Proofs.YtfpfagmmdiohbaaGreatDoor.Ev
