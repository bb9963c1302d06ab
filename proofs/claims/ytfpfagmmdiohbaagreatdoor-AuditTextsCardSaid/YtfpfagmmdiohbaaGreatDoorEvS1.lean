/-
  The engine is sound, 1: tries, lists, integers.
-/
import Derived.Test.YtfpfagmmdiohbaaGreatDoorEvDef
set_option linter.unusedVariables false
set_option linter.unusedSimpArgs false
namespace Go.Proofs.YtfpfagmmdiohbaaGreatDoor.Ev

@[simp] theorem nbeq (a b : Nat) : Nat.beq a b = decide (a = b) := by
  rw [Bool.eq_iff_iff]; simp [Nat.beq_eq]
@[simp] theorem nble (a b : Nat) : Nat.ble a b = decide (a ≤ b) := by
  rw [Bool.eq_iff_iff]; simp [Nat.ble_eq]
@[simp] theorem nblt (a b : Nat) : Nat.blt a b = decide (a < b) := by
  rw [Bool.eq_iff_iff]; simp [Nat.blt_eq]

/-! ### Tries -/
theorem Tr.get_set {α : Type} : ∀ (f : Nat) (t : Tr α) (k : Nat) (x : α) (j : Nat), k + 1 < 2 ^ f → (Tr.set f t k x).get j = if j = k then some x else t.get j := by
  intro f
  induction f with
  | zero => intro t k x j h; simp at h
  | succ f ih =>
    intro t k x j h
    have hp : 2 ^ (f + 1) = 2 * 2 ^ f := by rw [Nat.pow_succ]; omega
    have hpos : 0 < 2 ^ f := Nat.pos_of_ne_zero (by simp)
    have key : ∀ (l : Tr α) (v : Option α) (r : Tr α), (bif Nat.beq k 0 then Tr.n l (some x) r else bif Nat.beq (Nat.mod k 2) 1 then .n (Tr.set f l (Nat.div k 2) x) v r else .n l v (Tr.set f r (Nat.div (Nat.sub k 1) 2) x)).get j = if j = k then some x else (Tr.n l v r).get j := by
      intro l v r
      by_cases hk : k = 0
      · subst hk
        by_cases hj : j = 0
        · subst hj; simp [Tr.get]
        · simp [Tr.get, hj]
      · by_cases ho : k % 2 = 1
        · have h1 : k / 2 + 1 < 2 ^ f ∨ k / 2 + 1 = 2 ^ f := by omega
          have e1 : (bif Nat.beq k 0 then Tr.n l (some x) r else bif Nat.beq (Nat.mod k 2) 1 then .n (Tr.set f l (Nat.div k 2) x) v r else .n l v (Tr.set f r (Nat.div (Nat.sub k 1) 2) x)) = .n (Tr.set f l (k / 2) x) v r := by
            have : Nat.mod k 2 = 1 := ho
            simp [hk, this]; rfl
          rw [e1]
          by_cases hj0 : j = 0
          · subst hj0; simp [Tr.get, show ¬ (0 = k) by omega]
          · by_cases hjo : j % 2 = 1
            · have e2 : ∀ (l : Tr α) v r, (Tr.n l v r).get j = l.get (j / 2) := by
                intro l v r; have : Nat.mod j 2 = 1 := hjo; simp [Tr.get, hj0, this]; rfl
              rw [e2, e2, ih l (k / 2) x (j / 2) (by omega)]
              by_cases hjk : j = k
              · subst hjk; simp
              · have : ¬ j / 2 = k / 2 := by omega
                simp [hjk, this]
            · have e2 : ∀ (l : Tr α) v r, (Tr.n l v r).get j = r.get ((j - 1) / 2) := by
                intro l v r; have : ¬ Nat.mod j 2 = 1 := hjo; simp [Tr.get, hj0, this]; rfl
              rw [e2, e2]
              have : ¬ j = k := by omega
              simp [this]
        · have e1 : (bif Nat.beq k 0 then Tr.n l (some x) r else bif Nat.beq (Nat.mod k 2) 1 then .n (Tr.set f l (Nat.div k 2) x) v r else .n l v (Tr.set f r (Nat.div (Nat.sub k 1) 2) x)) = .n l v (Tr.set f r ((k - 1) / 2) x) := by
            have : ¬ Nat.mod k 2 = 1 := ho
            simp [hk, this]; rfl
          rw [e1]
          by_cases hj0 : j = 0
          · subst hj0; simp [Tr.get, show ¬ (0 = k) by omega]
          · by_cases hjo : j % 2 = 1
            · have e2 : ∀ (l : Tr α) v r, (Tr.n l v r).get j = l.get (j / 2) := by
                intro l v r; have : Nat.mod j 2 = 1 := hjo; simp [Tr.get, hj0, this]; rfl
              rw [e2, e2]
              have : ¬ j = k := by omega
              simp [this]
            · have e2 : ∀ (l : Tr α) v r, (Tr.n l v r).get j = r.get ((j - 1) / 2) := by
                intro l v r; have : ¬ Nat.mod j 2 = 1 := hjo; simp [Tr.get, hj0, this]; rfl
              rw [e2, e2, ih r ((k - 1) / 2) x ((j - 1) / 2) (by omega)]
              by_cases hjk : j = k
              · subst hjk; simp
              · have : ¬ (j - 1) / 2 = (k - 1) / 2 := by omega
                simp [hjk, this]
    cases t with
    | e =>
      have := key .e none .e
      have e0 : (Tr.n .e (none : Option α) .e).get j = (Tr.e : Tr α).get j := by
        simp only [Tr.get]; cases Nat.beq j 0 <;> cases Nat.beq (Nat.mod j 2) 1 <;> rfl
      rw [e0] at this
      exact this
    | n l v r => exact key l v r

theorem Tr.get_set64 {α : Type} (t : Tr α) (k : Nat) (x : α) (j : Nat) (h : k < big) : (Tr.set 64 t k x).get j = if j = k then some x else t.get j := by
  refine Tr.get_set 64 t k x j ?_
  have h1 : big = 9223372036854775808 := rfl
  have h2 : (2 : Nat) ^ 64 = 18446744073709551616 := by decide
  rw [h2]; omega

/-! ### Lists -/
theorem lget_eq {α : Type} : ∀ (l : List α) (k : Nat), lget l k = l[k]? := by
  intro l
  induction l with
  | nil => intro k; simp [lget]
  | cons x xs ih =>
    intro k
    cases k with
    | zero => simp [lget]
    | succ k => simp [lget, ih, show Nat.sub (k + 1) 1 = k from rfl]
theorem lset_eq {α : Type} : ∀ (l : List α) (k : Nat) (y : α), lset l k y = l.set k y := by
  intro l
  induction l with
  | nil => intro k y; simp [lset]
  | cons x xs ih =>
    intro k y
    cases k with
    | zero => simp [lset]
    | succ k => simp [lset, ih, show Nat.sub (k + 1) 1 = k from rfl]
theorem ldrop_eq {α : Type} : ∀ (l : List α) (k : Nat), ldrop l k = l.drop k := by
  intro l
  induction l with
  | nil => intro k; simp [ldrop]
  | cons x xs ih =>
    intro k
    cases k with
    | zero => simp [ldrop]
    | succ k => simp [ldrop, ih, show Nat.sub (k + 1) 1 = k from rfl]
theorem llen_eq {α : Type} : ∀ (l : List α), llen l = l.length := by
  intro l; induction l with
  | nil => rfl
  | cons x xs ih => simp [llen, ih]
theorem ltake_some {α : Type} : ∀ (n : Nat) (l r : List α), ltake n l = some r → r = l.take n ∧ r.length = n ∧ n ≤ l.length := by
  intro n
  induction n with
  | zero => intro l r h; simp [ltake] at h; simp [← h]
  | succ n ih =>
    intro l r h
    cases l with
    | nil => simp [ltake] at h
    | cons x xs =>
      simp only [ltake] at h
      split at h
      · rename_i l' hl'
        cases h
        obtain ⟨h1, h2, h3⟩ := ih xs l' hl'
        simp [h1, h3, Nat.min_eq_left h3]
      · cases h
theorem lsetAll_length {α : Type} : ∀ (vs l : List α) (k : Nat), (lsetAll l k vs).length = l.length := by
  intro vs
  induction vs with
  | nil => intro l k; rfl
  | cons x xs ih => intro l k; simp [lsetAll, ih, lset_eq]
theorem lsetAll_get {α : Type} : ∀ (vs l : List α) (k j : Nat), (lsetAll l k vs)[j]? = if k ≤ j ∧ j < k + vs.length ∧ j < l.length then vs[j - k]? else l[j]? := by
  intro vs
  induction vs with
  | nil => intro l k j; simp only [lsetAll, List.length_nil]; rw [if_neg (by omega)]
  | cons x xs ih =>
    intro l k j
    have e : lsetAll l k (x :: xs) = lsetAll (l.set k x) (k + 1) xs := by simp [lsetAll, lset_eq]
    rw [e, ih, List.length_set, List.getElem?_set]
    simp only [List.length_cons]
    by_cases h1 : j = k
    · subst h1
      have hn : ¬ (j + 1 ≤ j ∧ j < j + 1 + xs.length ∧ j < l.length) := by omega
      rw [if_neg hn]
      by_cases h2 : j < l.length
      · rw [if_pos (c := j ≤ j ∧ j < j + (xs.length + 1) ∧ j < l.length) ⟨by omega, by omega, h2⟩]; simp [h2]
      · rw [if_neg (c := j ≤ j ∧ j < j + (xs.length + 1) ∧ j < l.length) (fun h => h2 h.2.2)]; simp [h2]
    · by_cases h3 : k + 1 ≤ j ∧ j < k + 1 + xs.length ∧ j < l.length
      · rw [if_pos h3, if_pos (by omega)]
        obtain ⟨m, rfl⟩ : ∃ m, j = k + 1 + m := ⟨j - (k + 1), by omega⟩
        have e1 : k + 1 + m - (k + 1) = m := by omega
        have e2 : k + 1 + m - k = m + 1 := by omega
        rw [e1, e2]; simp
      · have hn : ¬ (k ≤ j ∧ j < k + (xs.length + 1) ∧ j < l.length) := by omega
        rw [if_neg h3, if_neg hn]
        have : ¬ k = j := fun h => h1 h.symm
        rw [if_neg this]
theorem repl_length {α : Type} (n : Nat) (l : List α) : (repl n l).length = n * l.length := by
  induction n with
  | zero => simp [repl]
  | succ n ih => simp [repl, ih, Nat.succ_mul, Nat.add_comm]
/-! ### Integers -/
theorem ile_eq (a b : Int) : ile a b = decide (a ≤ b) := by
  cases a <;> cases b <;> simp [ile] <;> omega
theorem ieq_eq (a b : Int) : ieq a b = decide (a = b) := by
  cases a <;> cases b <;> simp [ieq] <;> omega

theorem IE.eqb_eq : ∀ (a b : IE), a.eqb b = true → a = b := by
  intro a
  induction a with
  | lit n => intro b h; cases b <;> simp [IE.eqb, ieq_eq] at h; rw [h]
  | var i => intro b h; cases b <;> simp [IE.eqb] at h; rw [h]
  | add a b iha ihb => intro c h; cases c <;> simp [IE.eqb] at h; rw [iha _ h.1, ihb _ h.2]
  | sub a b iha ihb => intro c h; cases c <;> simp [IE.eqb] at h; rw [iha _ h.1, ihb _ h.2]

structure KnowOk (K : Know) (σ : Nat → Int) : Prop where
  rng : ∀ i r, lget K.rng i = some r → r.1 ≤ σ i ∧ σ i ≤ r.2
  le : ∀ a b t, (a, b, t) ∈ K.le → decide (a.val σ ≤ b.val σ) = t
  eq : ∀ a b t, (a, b, t) ∈ K.eq → decide (a.val σ = b.val σ) = t

theorem IE.rng_ok {K : Know} {σ : Nat → Int} (hK : KnowOk K σ) : ∀ (e : IE) (r : Int × Int), e.rng K = some r → r.1 ≤ e.val σ ∧ e.val σ ≤ r.2 := by
  intro e
  induction e with
  | lit n => intro r h; simp [IE.rng] at h; subst h; simp [IE.val]
  | var i => intro r h; exact hK.rng i r h
  | add a b iha ihb =>
    intro r h
    simp only [IE.rng] at h
    split at h
    · rename_i x y u v ha hb
      cases h
      have h1 := iha _ ha; have h2 := ihb _ hb
      simp only [IE.val] at *; omega
    · cases h
  | sub a b iha ihb =>
    intro r h
    simp only [IE.rng] at h
    split at h
    · rename_i x y u v ha hb
      cases h
      have h1 := iha _ ha; have h2 := ihb _ hb
      simp only [IE.val] at *; omega
    · cases h

theorem findCmp_mem : ∀ (l : List (IE × IE × Bool)) (a b : IE) (t : Bool), findCmp l a b = some t → (a, b, t) ∈ l := by
  intro l
  induction l with
  | nil => intro a b t h; simp [findCmp] at h
  | cons x xs ih =>
    intro a b t h
    obtain ⟨u, v, w⟩ := x
    simp only [findCmp] at h
    cases hc : (u.eqb a && v.eqb b) with
    | true =>
      rw [hc] at h; simp at h; simp at hc
      rw [IE.eqb_eq _ _ hc.1, IE.eqb_eq _ _ hc.2, h]; simp
    | false => rw [hc] at h; simp at h; exact List.mem_cons_of_mem _ (ih _ _ _ h)

theorem leE_ok {K : Know} {σ : Nat → Int} (hK : KnowOk K σ) (a b : IE) (t : Bool) (h : leE K a b = some t) : decide (a.val σ ≤ b.val σ) = t := by
  unfold leE at h
  split at h
  · cases h; simp only [ile_eq, IE.val]; exact decide_eq_decide.mpr Iff.rfl
  · split at h
    · rename_i x y u v ha hb
      have h1 := IE.rng_ok hK _ _ ha; have h2 := IE.rng_ok hK _ _ hb
      simp only at h1 h2
      cases c1 : ile y u with
      | true => rw [c1] at h; simp at h; subst h; rw [ile_eq] at c1; simp at c1; simp; omega
      | false =>
        rw [c1] at h; simp only [cond_false] at h
        cases c2 : ile (v + 1) x with
        | true => rw [c2] at h; simp at h; subst h; rw [ile_eq] at c2; simp at c2; simp; omega
        | false => rw [c2] at h; simp only [cond_false] at h; exact hK.le _ _ _ (findCmp_mem _ _ _ _ h)
    · exact hK.le _ _ _ (findCmp_mem _ _ _ _ h)

theorem eqE_ok {K : Know} {σ : Nat → Int} (hK : KnowOk K σ) (a b : IE) (t : Bool) (h : eqE K a b = some t) : decide (a.val σ = b.val σ) = t := by
  unfold eqE at h
  split at h
  · cases h; simp only [ieq_eq, IE.val]; exact decide_eq_decide.mpr Iff.rfl
  · cases c0 : a.eqb b with
    | true => rw [c0] at h; simp at h; subst h; rw [IE.eqb_eq _ _ c0]; simp
    | false =>
      rw [c0] at h; simp only [cond_false] at h
      split at h
      · rename_i x y u v ha hb
        have h1 := IE.rng_ok hK _ _ ha; have h2 := IE.rng_ok hK _ _ hb
        simp only at h1 h2
        cases c1 : ile (y + 1) u with
        | true => rw [c1] at h; simp at h; subst h; rw [ile_eq] at c1; simp at c1; simp; omega
        | false =>
          rw [c1] at h; simp only [cond_false] at h
          cases c2 : ile (v + 1) x with
          | true => rw [c2] at h; simp at h; subst h; rw [ile_eq] at c2; simp at c2; simp; omega
          | false => rw [c2] at h; simp only [cond_false] at h; exact hK.eq _ _ _ (findCmp_mem _ _ _ _ h)
      · exact hK.eq _ _ _ (findCmp_mem _ _ _ _ h)

theorem wrap_id {k : IntKind} {n : Int} (h1 : k.min ≤ n) (h2 : n ≤ k.max) : k.wrap n = n := by
  cases k <;> simp [IntKind.min, IntKind.max, IntKind.wrap, IntKind.signed, IntKind.bits] at * <;> omega

theorem wrapE_ok {K : Know} {σ : Nat → Int} (hK : KnowOk K σ) (k : IntKind) (e r : IE) (h : wrapE K k e = some r) : r.val σ = k.wrap (e.val σ) := by
  unfold wrapE at h
  split at h
  · cases h; rfl
  · split at h
    · rename_i x y hr
      cases c : (ile k.min x && ile y k.max) with
      | true =>
        rw [c] at h; simp only [cond_true] at h; cases h
        simp [ile_eq] at c
        have := IE.rng_ok hK _ _ hr
        simp only at this
        exact (wrap_id (by omega) (by omega)).symm
      | false => rw [c] at h; cases h
    · cases h
theorem addE_val (σ : Nat → Int) (a b : IE) : (addE a b).val σ = a.val σ + b.val σ := by
  unfold addE; split <;> rfl
theorem subE_val (σ : Nat → Int) (a b : IE) : (subE a b).val σ = a.val σ - b.val σ := by
  unfold subE; split <;> rfl
theorem litOf_some (σ : Nat → Int) {e : IE} {n : Int} (h : litOf e = some n) : e = .lit n := by
  cases e <;> simp [litOf] at h; rw [h]

theorem kindEq_eq {j k : IntKind} (h : kindEq j k = true) : j = k := by
  cases j <;> cases k <;> first | rfl | (simp [kindEq] at h)
theorem bytesEq_eq : ∀ (a b : List UInt8), bytesEq a b = decide (a = b) := by
  intro a
  induction a with
  | nil => intro b; cases b <;> simp [bytesEq]
  | cons x xs ih =>
    intro b
    cases b with
    | nil => simp [bytesEq]
    | cons y ys => simp [bytesEq, ih, UInt8.toNat_inj]

end Go.Proofs.YtfpfagmmdiohbaaGreatDoor.Ev
