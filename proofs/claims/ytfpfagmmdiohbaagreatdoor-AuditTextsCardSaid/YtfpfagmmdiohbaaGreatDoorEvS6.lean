/-
  The engine is sound, 6: loads, stores, new blocks.
-/
import Derived.Test.YtfpfagmmdiohbaaGreatDoorEvS5
import Derived.Laws.Cells
set_option linter.unusedVariables false
set_option linter.unusedSimpArgs false
namespace Go.Proofs.YtfpfagmmdiohbaaGreatDoor.Ev
open Go.RowKit

section
variable {P : Program} {g : G} {V : Env} {s s' : S} {B w : World}

theorem add_at (b o j : Nat) : (⟨b, o, none⟩ : Addr).add j = ⟨b, o + j, none⟩ := by
  unfold Addr.add
  split
  · rename_i h; simp [h]
  · rfl

theorem Blk.list_ok {b : Blk} {l : List AV} {id : Nat} {p : Nat × Nat} {o : Option Obj} (h : b.list? = some l) (hB : BlkO P V b id p o) :
    ∃ vs rest e fz, concL V l = some vs ∧ o = some (.cells (vs ++ rest).toArray e fz) := by
  cases b <;> simp [Blk.list?] at h
  · subst h; obtain ⟨vs, fz, h1, h2, _⟩ := hB; exact ⟨vs, [], _, fz, h1, by simpa using h2⟩
  · subst h; obtain ⟨vs, rest, fz, h1, h2, _⟩ := hB; exact ⟨vs, rest, _, fz, h1, h2⟩
  · subst h; obtain ⟨vs, rest, e, fz, h1, h2⟩ := hB; exact ⟨vs, rest, e, fz, h1, h2⟩

theorem loadC_ok (hR : Rel P V s B w) {id off n : Nat} {l : List AV} {p : Nat × Nat} (h : loadC s id off n = some l) (hp : V.E id = some p) :
    ∃ vs, concL V l = some vs ∧ vs.length = n ∧ ∀ j x, vs[j]? = some x → w.cell? ⟨p.1, off + j, none⟩ = some x := by
  unfold loadC at h
  split at h
  · rename_i b hb
    split at h
    · rename_i l0 hl0
      obtain ⟨q, hq, hB, _⟩ := hR.blk id b hb
      rw [hp] at hq; cases hq
      obtain ⟨vs, rest, e, fz, h1, h2⟩ := Blk.list_ok hl0 hB
      rcases concL_ltake h1 h with ⟨k1, k2, k3⟩ | ⟨k1, k2, k3⟩
      · refine ⟨_, k1, by simp; omega, fun j x hx => ?_⟩
        rw [List.getElem?_take] at hx
        split at hx
        · rw [List.getElem?_drop] at hx
          simp only [World.cell?, h2]
          have hj : off + j < vs.length := (List.getElem?_eq_some_iff.1 hx).1
          simp [List.getElem?_append_left hj, hx]
        · cases hx
      · exact ⟨[], k1, k2.symm, fun j x hx => by simp at hx⟩
    · cases h
  · cases h

theorem run_loadT (hG : GOk P g V.σ) (hR : Rel P V s B w) {t : TypeId} {id off : Nat} {v : AV} {p : Nat × Nat} (h : loadT g s t id off = some v) (hp : V.E id = some p) :
    ∃ x, v.conc V = some x ∧ (loadVar t ⟨p.1, off, none⟩).run P w = .ok x w := by
  unfold loadT at h
  split at h
  · rename_i ti hti
    have hT := hG.ty _ _ hti
    cases c : isAggD ti.desc with
    | true =>
      rw [c] at h; simp only [cond_true] at h
      split at h
      · rename_i l hl; cases h
        obtain ⟨vs, h1, h2, h3⟩ := loadC_ok hR hl hp
        refine ⟨_, agg_mk h1, ?_⟩
        simp only [loadVar, Sem.run_bind, run_isAgg' hT, Result.andThen_ok, c, if_true, run_sizeOf' hT, ← h2]
        rw [run_loadCells_list w ⟨p.1, off, none⟩ vs (fun j x hx => by rw [add_at]; exact h3 j x hx)]
        rfl
      · cases h
    | false =>
      rw [c] at h; simp only [cond_false] at h
      split at h
      · rename_i v' hl; cases h
        obtain ⟨vs, h1, h2, h3⟩ := loadC_ok hR hl hp
        obtain ⟨x, r, rfl, hx, hr⟩ := concL_cons h1
        refine ⟨x, hx, ?_⟩
        have := h3 0 x (by simp)
        simp only [loadVar, Sem.run_bind, run_isAgg' hT, Result.andThen_ok, c, Bool.false_eq_true, if_false, run_load]
        rw [Nat.add_zero] at this
        rw [this]
      · cases h
  · cases h

theorem run_storeCells_own (b o : Nat) (e : TypeId) (fz : Nat × Nat) : ∀ (us : List Value) (i : Nat) (cur : List Value) (w : World), w.heap[b]? = some (.cells cur.toArray e fz) → NoFz fz cur.length → o + i + us.length ≤ cur.length → (∀ v ∈ us, v.oneCell' = true) →
    ∃ w', (storeCells ⟨b, o, none⟩ us i).run P w = .ok () w' ∧ w'.heap[b]? = some (.cells (setAll cur (o + i) us).toArray e fz) ∧ (∀ k, k ≠ b → w'.heap[k]? = w.heap[k]?) ∧ w'.heap.size = w.heap.size ∧ w'.os = w.os ∧ w'.tape = w.tape ∧ w'.output = w.output := by
  intro us
  induction us with
  | nil => intro i cur w h _ _ _; exact ⟨w, rfl, h, fun _ _ => rfl, rfl, rfl, rfl, rfl⟩
  | cons u us ih =>
    intro i cur w h hf hl h1
    simp only [List.length_cons] at hl
    have hc : w.cell? ⟨b, o + i, none⟩ = some (cur[o + i]'(by omega)) := by
      simp only [World.cell?, h]
      simp [List.getElem?_eq_getElem (show o + i < cur.length by omega)]
    have hz : w.frozen? ⟨b, o + i, none⟩ = false := by
      simp only [World.frozen?, h]
      have := hf (o + i) (by omega)
      simp only [Bool.and_eq_false_iff, decide_eq_false_iff_not]
      omega
    have hb' : (w.setCell ⟨b, o + i, none⟩ u).heap[b]? = some (.cells (cur.set (o + i) u).toArray e fz) := by
      simp only [World.setCell, Array.getElem?_modify]
      simp [h]
    obtain ⟨w', k1, k2, k3, k4, k5, k6, k7⟩ := ih (i + 1) (cur.set (o + i) u) (w.setCell ⟨b, o + i, none⟩ u) hb' (by simpa using hf) (by simp; omega) (fun v hv => h1 v (by simp [hv]))
    refine ⟨w', ?_, ?_, ?_, ?_, k5, k6, k7⟩
    · have hst' : (store ((⟨b, o, none⟩ : Addr).add i) u).run P w = .ok () (w.setCell ⟨b, o + i, none⟩ u) := by
        rw [add_at, run_store P w _ u .plain (h1 u (by simp)), hc, hz]; rfl
      simp only [storeCells, Sem.run_bind, hst', Result.andThen_ok]
      exact k1
    · rw [k2, show o + (i + 1) = o + i + 1 by omega]; rfl
    · intro k hk; rw [k3 k hk]; exact Below.heap_setCell _ _ _ _ hk
    · rw [k4]; simp [World.setCell]

theorem setAll_app : ∀ (us l r : List Value) (k : Nat), k + us.length ≤ l.length → setAll (l ++ r) k us = setAll l k us ++ r := by
  intro us
  induction us with
  | nil => intro l r k _; rfl
  | cons u us ih =>
    intro l r k h
    simp only [List.length_cons] at h
    simp only [setAll]
    rw [List.set_append_left _ _ (by omega), ih _ _ _ (by simp; omega)]

theorem storeC_ok (hR : Rel P V s B w) {id off : Nat} {vs : List AV} {us : List Value} {p : Nat × Nat} (h : storeC s id off vs = some s') (hp : V.E id = some p) (hu : concL V vs = some us) :
    ∃ w', Rel P V s' B w' ∧ (storeCells ⟨p.1, off, none⟩ us).run P w = .ok () w' ∧ w'.heap.size = w.heap.size := by
  unfold storeC at h
  cases c0 : (Nat.blt id big && allOne vs) with
  | false => rw [c0] at h; cases h
  | true =>
    rw [c0] at h; simp only [cond_true] at h
    simp only [nblt, Bool.and_eq_true, decide_eq_true_eq] at c0
    have h1 := allOne_oneCell hu c0.2
    have hlen := concL_len hu
    split at h
    · rename_i l e hb
      cases c : Nat.ble (Nat.add off (llen vs)) (llen l) with
      | false => rw [c] at h; cases h
      | true =>
        rw [c] at h; cases h
        rw [llen_eq, llen_eq] at c
        have c' : off + vs.length ≤ l.length := by simpa using c
        obtain ⟨q, hq, hB, hO, _⟩ := hR.blk id _ hb
        rw [hp] at hq; cases hq
        obtain ⟨cur, fz, k1, k2, k3⟩ := hB
        have hl := concL_len k1
        obtain ⟨w', m1, m2, m3, m4, m5, m6, m7⟩ := run_storeCells_own (P := P) p.1 off e fz us 0 cur w k2 k3 (by omega) h1
        refine ⟨w', hR.turn (b' := .cells (lsetAll l off vs) e) c0.1 rfl hb rfl rfl hp m3 m4 m5 m6 m7 ?_, m1, m4⟩
        exact ⟨_, fz, concL_setAll off k1 hu, m2, by rw [setAll_length]; exact k3⟩
    · rename_i l e hb
      cases c : Nat.ble (Nat.add off (llen vs)) (llen l) with
      | false => rw [c] at h; cases h
      | true =>
        rw [c] at h; cases h
        rw [llen_eq, llen_eq] at c
        have c' : off + vs.length ≤ l.length := by simpa using c
        obtain ⟨q, hq, hB, hO, _⟩ := hR.blk id _ hb
        rw [hp] at hq; cases hq
        obtain ⟨cur, rest, fz, k1, k2, k3, k4⟩ := hB
        have hl := concL_len k1
        obtain ⟨w', m1, m2, m3, m4, m5, m6, m7⟩ := run_storeCells_own (P := P) p.1 off e fz us 0 (cur ++ rest) w k2 (by simpa using k3) (by simp; omega) h1
        refine ⟨w', hR.turn (b' := .row (lsetAll l off vs) e) c0.1 rfl hb rfl rfl hp m3 m4 m5 m6 m7 ?_, m1, m4⟩
        refine ⟨_, rest, fz, concL_setAll off k1 hu, ?_, by rw [setAll_length]; exact k3, by rw [setAll_length]; exact k4⟩
        rw [m2, Nat.add_zero, setAll_app _ _ _ _ (by omega)]
    · cases h

/-! ### New rows -/
theorem NoFz0 (n : Nat) : NoFz (0, 0) n := fun o _ h => by omega

theorem new_cells (hR : Rel P V s B w) {l : List AV} {e : TypeId} {id : Nat} {vs : List Value} (h : newB s (.cells l e) = some (id, s')) (hl : concL V l = some vs) :
    ∃ V', Ext V V' ∧ Rel P V' s' B (w.alloc (.cells vs.toArray e)) ∧ V'.E id = some (w.heap.size, 0) := by
  obtain ⟨h1, h2, h3⟩ := hR.new (cap := 0) (lc := none) (o := .cells vs.toArray e) h rfl (.inl rfl) ⟨vs, (0, 0), concL_mono (hR.ext (newB_some h).2.2.1 _ _) hl, rfl, NoFz0 _⟩
  exact ⟨_, h2, h1, h3⟩
theorem new_row (hR : Rel P V s B w) {l : List AV} {e : TypeId} {id cap : Nat} {vs rest : List Value} {fz : Nat × Nat} (h : newB s (.row l e) = some (id, s')) (hl : concL V l = some vs)
    (hf : NoFz fz (vs.length + rest.length)) (hc : ∀ i, P.info? e = some i → vs.length + rest.length = cap * i.size) :
    ∃ V', Ext V V' ∧ Rel P V' s' B (w.alloc (.cells (vs ++ rest).toArray e fz)) ∧ V'.E id = some (w.heap.size, cap) := by
  obtain ⟨h1, h2, h3⟩ := hR.new (cap := cap) (lc := none) (o := .cells (vs ++ rest).toArray e fz) h rfl (.inl rfl) ⟨vs, rest, fz, concL_mono (hR.ext (newB_some h).2.2.1 _ _) hl, rfl, hf, hc⟩
  exact ⟨_, h2, h1, h3⟩

theorem run_newRow (e : TypeId) (c : Array Value) (w : World) : (newRow e c).run P w = .ok ⟨w.heap.size, 0, none⟩ (w.alloc (.cells c e)) := rfl

theorem repl_get {α : Type} : ∀ (n : Nat) (l : List α) (i : Nat), i < n * l.length → (repl n l)[i]? = l[i % l.length]? := by
  intro n
  induction n with
  | zero => intro l i h; simp at h
  | succ n ih =>
    intro l i h
    simp only [repl]
    by_cases hi : i < l.length
    · rw [List.getElem?_append_left hi, Nat.mod_eq_of_lt hi]
    · have hi' : l.length ≤ i := by omega
      have h' : i - l.length < n * l.length := by rw [Nat.succ_mul] at h; omega
      rw [List.getElem?_append_right hi', ih l _ h', ← Nat.mod_eq_sub_mod hi']
theorem zeros_eq (z : Array Value) (n : Nat) : ((Array.range (n * z.size)).map fun i => z[i % z.size]!) = (repl n z.toList).toArray := by
  apply Array.ext'
  simp only [Array.toList_map, Array.toList_range]
  apply List.ext_getElem?
  intro i
  by_cases hi : i < n * z.size
  · have hz : 0 < z.size := by
      rcases Nat.eq_zero_or_pos z.size with h | h
      · rw [h] at hi; simp at hi
      · exact h
    have hm : i % z.size < z.size := Nat.mod_lt _ hz
    have : (repl n z.toList)[i]? = z.toList[i % z.toList.length]? := repl_get n z.toList i (by simpa using hi)
    rw [this]
    simp [hi, hm]
  · have h1 : (repl n z.toList).length ≤ i := by rw [repl_length]; simpa using hi
    rw [List.getElem?_eq_none h1]
    simp; omega
theorem repl_conc {l : List AV} {vs : List Value} (h : concL V l = some vs) : ∀ n, concL V (repl n l) = some (repl n vs) := by
  intro n
  induction n with
  | zero => rfl
  | succ n ih => exact concL_app h ih
end
end Go.Proofs.YtfpfagmmdiohbaaGreatDoor.Ev
