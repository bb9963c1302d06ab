/-
  The engine is sound, 9: copy, maps.
-/
import Derived.Test.YtfpfagmmdiohbaaGreatDoorEvS8
set_option linter.unusedVariables false
set_option linter.unusedSimpArgs false
namespace Go.Proofs.YtfpfagmmdiohbaaGreatDoor.Ev
open Go.RowKit

section
variable {P : Program} {g : G} {V : Env} {s s' : S} {B w : World}

theorem copyA_ok (hG : GOk P g V.σ) (hR : Rel P V s B w) {t : TypeId} {x y : AV} {X Y : Value} {n : Nat} {ats : List TypeId} {rest : List Value} (ty : TypeId) (h : copyA g s t x y = some (n, s')) (hX : x.conc V = some X) (hY : y.conc V = some Y) :
    ∃ w', Rel P V s' B w' ∧ (Builtin.copy_ ⟨t :: ats⟩ ty ⟨X :: Y :: rest⟩).run P w = .ok (goInt n) w' := by
  unfold copyA at h
  split at h
  · rename_i ti hti
    have ht := (hG.ty _ _ hti).desc
    split at h
    · rename_i e hd
      rw [hd] at ht
      split at h
      · rename_i te hte
        have hsz := run_sizeOf' (w := w) (hG.ty _ _ hte)
        split at h
        · rename_i k l hsrc
          have src : ∃ vs, concL V l = some vs ∧ (Builtin.lenOf Y).run P w = .ok k w ∧ ∀ m, m ≤ k → ∀ us : List AV × List Value, concL V us.1 = some us.2 → us.1 = l.take (m * te.size) → (Builtin.firstCells te.size m Y).run P w = .ok us.2.toArray w := by
            unfold srcCells at hsrc
            split at hsrc
            · cases hsrc
              simp only [AV.conc] at hY; cases hY
              refine ⟨[], rfl, rfl, fun m hm us hu he => ?_⟩
              obtain ⟨u1, u2⟩ := us
              simp at he; simp only at hu; rw [he] at hu; cases hu
              rfl
            · rename_i id off len cp sk
              split at hsrc
              · rename_i l0 hl; cases hsrc
                obtain ⟨p, hp, rfl⟩ := conc_slice hY
                obtain ⟨vs, h1, h2, h3⟩ := loadC_ok hR hl hp
                refine ⟨vs, h1, rfl, fun m hm us hu he => ?_⟩
                obtain ⟨u1, u2⟩ := us
                simp only at hu he
                rw [he] at hu
                have := concL_take h1 (m * te.size)
                rw [this] at hu; cases hu
                have hl2 : (vs.take (m * te.size)).length = m * te.size := by
                  rw [List.length_take, h2]; exact Nat.min_eq_left (Nat.mul_le_mul_right _ hm)
                have hrun := run_loadCells_list (P := P) w ⟨p.1, off, none⟩ (vs.take (m * te.size)) (fun j x hx => ?_)
                · rw [hl2] at hrun; exact hrun
                · rw [add_at]; rw [List.getElem?_take] at hx
                  split at hx
                  · exact h3 j x hx
                  · cases hx
              · cases hsrc
            · rename_i bs
              cases c1 : Nat.beq te.size 1 with
              | false => rw [c1] at hsrc; cases hsrc
              | true =>
                rw [c1] at hsrc; cases hsrc
                have c1' : te.size = 1 := by simpa using c1
                simp only [AV.conc] at hY; cases hY
                have hs : (⟨bs.toArray⟩ : ByteArray).size = bs.length := by simp [ByteArray.size]
                refine ⟨_, bytesA_conc V bs, by simp [Builtin.lenOf, hs, llen_eq], fun m hm us hu he => ?_⟩
                obtain ⟨u1, u2⟩ := us
                simp only at hu he
                rw [he] at hu
                have := concL_take (bytesA_conc V bs) (m * te.size)
                rw [this] at hu; cases hu
                simp only [Builtin.firstCells, Sem.run_pure, c1', Nat.mul_one]
                congr 1
                apply Array.ext'
                simp [ByteArray.data_extract]
            · cases hsrc
          obtain ⟨vs, h1, h2, h3⟩ := src
          split at h
          · rename_i id off m cp sk
            obtain ⟨p, hp, rfl⟩ := conc_slice hX
            simp only at h
            split at h
            · rename_i us hus
              obtain ⟨o1, o2, o3⟩ := ltake_some _ _ _ hus
              split at h
              · rename_i s1 hst; cases h
                have hc : concL V us = some (vs.take (Nat.min k m * te.size)) := by rw [o1]; exact concL_take h1 _
                obtain ⟨w', r1, r2, r3⟩ := storeC_ok hR hst hp hc
                refine ⟨w', r1, ?_⟩
                have hf := h3 (Nat.min k m) (Nat.min_le_left _ _) (us, vs.take (Nat.min k m * te.size)) hc o1
                simp only [Builtin.copy_, List.getElem?_toArray, List.getElem?_cons_zero, List.getElem?_cons_succ, Sem.run_bind, run_underlying ht, Result.andThen_ok, h2, hsz, hf, r2, Sem.run_pure]
              · cases h
            · cases h
          · cases h
            simp only [AV.conc] at hX; cases hX
            refine ⟨w, hR, ?_⟩
            have hf := h3 0 (Nat.zero_le _) ([], []) rfl (by simp)
            have hmin : Nat.min k 0 = 0 := Nat.min_zero k
            simp only [Builtin.copy_, List.getElem?_toArray, List.getElem?_cons_zero, List.getElem?_cons_succ, Sem.run_bind, run_underlying ht, Result.andThen_ok, h2, hsz, hmin, hf, Sem.run_pure]
          · cases h
        · cases h
      · cases h
    · cases h
  · cases h

/-! ### Equal abstract values -/
theorem optNatEq_eq {a b : Option Nat} (h : optNatEq a b = true) : a = b := by
  cases a <;> cases b <;> simp [optNatEq] at h <;> first | rfl | rw [h]
theorem fnEq_eq {a b : Fn} (h : fnEq a b = true) : a = b := by
  cases a <;> cases b <;> simp [fnEq] at h; rw [h]

theorem eqb_eq (x : AV) : ∀ (y : AV), AV.eqb x y = true → x = y := by
  induction x using AV.rec (motive_2 := fun l => ∀ m, AV.eqbL l m = true → l = m) with
  | bool b => intro y h; cases y <;> simp [AV.eqb] at h; rw [h]
  | int k e => intro y h; cases y <;> simp [AV.eqb] at h; rw [kindEq_eq h.1, IE.eqb_eq _ _ h.2]
  | str l => intro y h; cases y <;> simp [AV.eqb, bytesEq_eq] at h; rw [h]
  | ptr id off => intro y h; cases y <;> simp [AV.eqb] at h; rw [h.1, h.2]
  | nilp => intro y h; cases y <;> first | rfl | (simp [AV.eqb] at h)
  | slice id off len cap skip => intro y h; cases y <;> simp [AV.eqb] at h; obtain ⟨⟨⟨⟨h1, h2⟩, h3⟩, h4⟩, h5⟩ := h; rw [h1, h2, h3, optNatEq_eq h4, h5]
  | nils => intro y h; cases y <;> first | rfl | (simp [AV.eqb] at h)
  | map id => intro y h; cases y <;> simp [AV.eqb] at h; rw [h]
  | nilm => intro y h; cases y <;> first | rfl | (simp [AV.eqb] at h)
  | func fn f c ih1 ih2 =>
    intro y h
    cases y <;> simp [AV.eqb] at h
    rw [fnEq_eq h.1.1, ih1 _ h.1.2, ih2 _ h.2]
  | yield id => intro y h; cases y <;> simp [AV.eqb] at h; rw [h]
  | nilf => intro y h; cases y <;> first | rfl | (simp [AV.eqb] at h)
  | nili => intro y h; cases y <;> first | rfl | (simp [AV.eqb] at h)
  | agg l ih => intro y h; cases y <;> simp [AV.eqb] at h; rw [ih _ h]
  | tup l ih => intro y h; cases y <;> simp [AV.eqb] at h; rw [ih _ h]
  | opq i => intro y h; cases y <;> simp [AV.eqb] at h; rw [h]
  | nil => rename_i m h; cases m <;> first | rfl | (simp [AV.eqbL, AV.eqb.eqbL] at h)
  | cons x xs ih1 ih2 =>
    rename_i m h
    cases m with
    | nil => simp [AV.eqbL, AV.eqb.eqbL] at h
    | cons y ys => simp [AV.eqbL, AV.eqb.eqbL] at h; rw [ih1 _ h.1, ih2 _ h.2]

/-! ### Keys -/
theorem plainCells_bits (n : Nat) : ∀ {l : List AV} {vs : List Value}, plainCells l = true → concL V l = some vs → (vs.zip vs).all (fun (x, y) => Instr.sameBits n x y) = true := by
  intro l
  induction l with
  | nil => intro vs _ hc; cases hc; rfl
  | cons x xs ih =>
    intro vs h hc
    obtain ⟨v, r, rfl, hv, hr⟩ := concL_cons hc
    cases x <;> simp [plainCells] at h
    · simp only [AV.conc] at hv; cases hv
      have := ih h hr
      simp only [List.zip_cons_cons, List.all_cons, this, Bool.and_true]
      simp [Instr.sameBits]
    · simp only [AV.conc] at hv; cases hv
      have := ih h hr
      simp only [List.zip_cons_cons, List.all_cons, this, Bool.and_true]
      simp [Instr.sameBits]
    · simp only [AV.conc] at hv; cases hv
      have := ih h hr
      simp only [List.zip_cons_cons, List.all_cons, this, Bool.and_true]
      simp only [Instr.sameBits]
      rw [beq_toListBytes]; simp

theorem run_checkKey_struct (empty : Bool) (d : Nat) (t : TypeId) (xs : Array Value) (fields : Array Field) (ht : P.underlying t = some (.struct fields)) (w : World)
    (h : ∀ f ∈ fields.toList, ∃ x, (∀ w, (part f.type xs f.offset).run P w = .ok x w) ∧ ∀ w, (Instr.checkKey empty d f.type x).run P w = .ok () w) :
    (Instr.checkKey empty (d + 1) t (.agg xs)).run P w = .ok () w := by
  simp only [Instr.checkKey, Sem.run_bind, run_underlying ht, Result.andThen_ok]
  rw [← Array.forIn_toList]
  generalize fields.toList = fs at h
  clear ht
  induction fs with
  | nil => simp
  | cons f fs ih =>
    obtain ⟨x, h1, h2⟩ := h f (by simp)
    have ih' := ih (fun f hf => h f (by simp [hf]))
    simp only [List.forIn_cons, Sem.run_bind, Sem.run_ite] at ih' ⊢
    split
    · simp only [h1, h2, Result.andThen_ok, Sem.run_pure]
      exact ih'
    · simp only [Result.andThen_ok, Sem.run_pure]
      exact ih'

theorem keyPlain_ok (hG : GOk P g V.σ) (empty : Bool) : ∀ (d : Nat) (t : TypeId) (k : AV) (K : Value), keyPlain g d t k = true → k.conc V = some K → ∀ d', d ≤ d' → (∀ w, (Instr.checkKey empty d' t K).run P w = .ok () w) ∧ Instr.sameBits d' K K = true := by
  intro d
  induction d with
  | zero => intro t k K h; simp [keyPlain] at h
  | succ d ih =>
    intro t k K h hK d' hd
    obtain ⟨e, rfl⟩ : ∃ e, d' = e + 1 := ⟨d' - 1, by omega⟩
    simp only [keyPlain] at h
    split at h
    · cases h
    · rename_i ti hti
      have hT := hG.ty t ti hti
      have hu := hT.desc
      split at h
      · rename_i b hd1; rw [hd1] at hu
        simp only [AV.conc] at hK; cases hK
        exact ⟨fun w => by simp [Instr.checkKey, run_underlying hu], by simp [Instr.sameBits]⟩
      · rename_i k0 k1 e1 hd1; rw [hd1] at hu
        simp only [AV.conc] at hK; cases hK
        exact ⟨fun w => by simp [Instr.checkKey, run_underlying hu], by simp [Instr.sameBits]⟩
      · rename_i l hd1; rw [hd1] at hu
        simp only [AV.conc] at hK; cases hK
        refine ⟨fun w => by simp [Instr.checkKey, run_underlying hu], ?_⟩
        simp only [Instr.sameBits]
        rw [beq_toListBytes]; simp
      · rename_i fields xs hd1
        rw [hd1] at hu
        obtain ⟨vs, rfl, hvs⟩ := conc_agg hK
        rw [Bool.and_eq_true] at h
        refine ⟨fun w => run_checkKey_struct empty e t _ fields hu w (fun f hf => ?_), ?_⟩
        · have key : ∀ (fs : List Field), keyFields (keyPlain g d) g xs fs = true → ∀ f ∈ fs, ∃ y, partT g f.type xs f.offset = some y ∧ keyPlain g d f.type y = true := by
            intro fs
            induction fs with
            | nil => intro _ f hf; cases hf
            | cons f0 fs ihf =>
              intro hk f hf
              simp only [keyFields, Bool.and_eq_true] at hk
              cases hf with
              | head =>
                have hk1 := hk.1
                split at hk1
                · rename_i y hy; exact ⟨y, hy, hk1⟩
                · cases hk1
              | tail _ hf => exact ihf hk.2 f hf
          obtain ⟨y, hy1, hy2⟩ := key _ h.2 f hf
          obtain ⟨x, hx1, hx2⟩ := partT_ok hG.ty hy1 hvs
          exact ⟨x, hx2, (ih f.type y x hy2 hx1 e (by omega)).1⟩
        · simp only [Instr.sameBits, Bool.and_eq_true, beq_self_eq_true, true_and]
          exact plainCells_bits e h.1 hvs
      · cases h
end
end Go.Proofs.YtfpfagmmdiohbaaGreatDoor.Ev
