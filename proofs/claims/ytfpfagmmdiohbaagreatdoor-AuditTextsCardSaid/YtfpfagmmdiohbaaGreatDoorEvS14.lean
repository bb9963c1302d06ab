/-
  The engine is sound, 14: an operation of a drawn region that may be taken first.
-/
import Derived.Test.YtfpfagmmdiohbaaGreatDoorEvS13
set_option linter.unusedVariables false
set_option linter.unusedSimpArgs false
namespace Go.Proofs.YtfpfagmmdiohbaaGreatDoor.Ev
open Go.RowKit

/-- Held cells, concretely. -/
abbrev CH := List (Nat × Addr × Value)
def SH (ch : CH) (w : World) : Prop := ∀ i p x, (i, p, x) ∈ ch → w.cell? p = some x
def chDrop (es : List Edge) : CH → CH
  | [] => []
  | (i, c) :: h => bif edgeOn i es then chDrop es h else (i, c) :: chDrop es h

theorem chDrop_sub {es : List Edge} : ∀ {ch : CH} {x}, x ∈ chDrop es ch → x ∈ ch := by
  intro ch
  induction ch with
  | nil => intro x h; exact h
  | cons c ch ih =>
    intro x h
    obtain ⟨i, c⟩ := c
    simp only [chDrop] at h
    cases he : edgeOn i es with
    | true => rw [he] at h; exact List.mem_cons_of_mem _ (ih h)
    | false =>
      rw [he] at h
      cases h with
      | head => exact List.mem_cons_self ..
      | tail _ h => exact List.mem_cons_of_mem _ (ih h)
theorem chDrop_mono {es : List Edge} : ∀ {ch ch' : CH}, (∀ x, x ∈ ch' → x ∈ ch) → ∀ x, x ∈ chDrop es ch' → x ∈ chDrop es ch := by
  intro ch ch' h
  have mem : ∀ (c : CH) (i : Nat) (p : Addr × Value), (i, p) ∈ chDrop es c ↔ (i, p) ∈ c ∧ edgeOn i es = false := by
    intro c
    induction c with
    | nil => intro i p; simp [chDrop]
    | cons y c ih =>
      intro i p
      obtain ⟨j, q⟩ := y
      simp only [chDrop]
      cases he : edgeOn j es with
      | true =>
        simp only [cond_true, ih, List.mem_cons, Prod.mk.injEq]
        constructor
        · rintro ⟨h1, h2⟩; exact ⟨.inr h1, h2⟩
        · rintro ⟨h1 | h1, h2⟩
          · rw [h1.1, he] at h2; cases h2
          · exact ⟨h1, h2⟩
      | false =>
        simp only [cond_false, List.mem_cons, Prod.mk.injEq, ih]
        constructor
        · rintro (h1 | ⟨h1, h2⟩)
          · exact ⟨.inl h1, by rw [h1.1]; exact he⟩
          · exact ⟨.inr h1, h2⟩
        · rintro ⟨h1 | h1, h2⟩
          · exact .inl h1
          · exact .inr ⟨h1, h2⟩
  rintro ⟨i, p⟩ hx
  rw [mem] at hx ⊢
  exact ⟨h _ hx.1, hx.2⟩
theorem chDrop_app {es : List Edge} {i : Nat} (hi : edgeOn i es = false) : ∀ {chi ch : CH}, (∀ x ∈ chi, x.1 = i) → chDrop es (chi ++ ch) = chi ++ chDrop es ch := by
  intro chi
  induction chi with
  | nil => intro ch _; rfl
  | cons c chi ih =>
    intro ch h
    obtain ⟨j, c⟩ := c
    have hj : j = i := h (j, c) (by simp)
    subst hj
    simp only [List.cons_append, chDrop, hi, cond_false]
    rw [ih (fun x hx => h x (by simp [hx]))]

section
variable {P : Program} {F : Fence} {n : Nat} {ops : Array Oper} {Q : Exit → Act → World → Prop}

/-- Whatever order is picked: behind each operation the cells hold that are still to be held. -/
def wpAnyW (F : Fence) (n : Nat) (P : Program) (ops : Array Oper) (Q : Exit → Act → World → Prop) : Nat → Array Bool → CH → Act → World → Prop
  | 0, listed, _, a, w => Region.ready .any ops listed = [] ∧ Q .normal a w
  | fuel + 1, listed, ch, a, w =>
    (Region.ready .any ops listed = [] → Q .normal a w) ∧
    ∀ i ∈ Region.ready .any ops listed, ∀ o, ops[i]? = some o → wpOpIn F n P ops Q i (fun a' w' => SH (chDrop o.after.toList ch) w' ∧ wpAnyW F n P ops Q fuel (listed.setIfInBounds i true) (chDrop o.after.toList ch) a' w') a w

theorem wpAny_of_W : ∀ (fuel : Nat) (listed : Array Bool) (ch : CH) (a : Act) (w : World), wpAnyW F n P ops Q fuel listed ch a w → wpAnyIn F n P .any ops Q fuel listed a w
  | 0, _, _, _, _, h => h
  | fuel + 1, listed, ch, a, w, h => ⟨h.1, fun i hi => by
    obtain ⟨_, o, ho, _⟩ := mem_ready.1 hi
    exact wpOpIn_mono (fun a' w' h' => wpAny_of_W fuel _ _ a' w' h'.2) (h.2 i hi o ho)⟩

theorem wpAnyW_sub : ∀ (fuel : Nat) (listed : Array Bool) (ch ch' : CH) (a : Act) (w : World), (∀ x, x ∈ ch' → x ∈ ch) → wpAnyW F n P ops Q fuel listed ch a w → wpAnyW F n P ops Q fuel listed ch' a w
  | 0, _, _, _, _, _, _, h => h
  | fuel + 1, listed, ch, ch', a, w, hs, h => ⟨h.1, fun i hi o ho =>
    wpOpIn_mono (fun a' w' h' => ⟨fun i p x hx => h'.1 i p x (chDrop_mono hs _ hx), wpAnyW_sub fuel _ _ _ a' w' (chDrop_mono hs) h'.2⟩) (h.2 i hi o ho)⟩

/-- In every world in which its cells hold the operation yields v and does nothing else. -/
def YieldsW (P : Program) (ops : Array Oper) (chi : CH) (o : Oper) (v : Value) (a : Act) : Prop :=
  (Region.wanted o (yielded ops a.tmps) = true ∧ ∀ w, SH chi w → (execOp a.eval o).run P w = .ok (.value v) w) ∨
  (Region.wanted o (yielded ops a.tmps) = false ∧ v = undef)
theorem YieldsW.of_same {chi : CH} {o : Oper} {v : Value} {a a' : Act} (hy : YieldsW P ops chi o v a) (he : execOp a'.eval o = execOp a.eval o)
    (hw : Region.wanted o (yielded ops a'.tmps) = Region.wanted o (yielded ops a.tmps)) : YieldsW P ops chi o v a' := by
  unfold YieldsW at *; rw [he, hw]; exact hy
theorem YieldsW.wpOpIn {chi : CH} {i : Nat} {o : Oper} {v : Value} {a : Act} (hF : FOk F) (hd : ∀ c, o.op ≠ .defer c) (hi : ops[i]? = some o) (hy : YieldsW P ops chi o v a)
    {K : Act → World → Prop} {w : World} (hs : SH chi w) (h : K (a.put o.dst v) w) : wpOpIn F n P ops Q i K a w := by
  unfold Go.wpOpIn
  simp only [hi]
  rcases hy with ⟨hw, hv⟩ | ⟨hw, rfl⟩
  · simp only [hw, if_true, Oper.wpIn, Oper.semAt_eq _ _ _ hd, hv w hs, Oper.uponIn]; exact ⟨fun f _ => hF.1 f, h⟩
  · simp only [hw, Bool.false_eq_true, if_false]; exact ⟨fun f _ => hF.1 f, h⟩

theorem wpOpIn_putW {chi : CH} {j : Nat} {oi oj : Oper} {v : Value} (hF : FOk F) (hj : ops[j]? = some oj)
    (h1 : ∀ d, oi.dst = some d → d ∉ oj.looksAt ops) (h2 : ∀ d, oi.dst = some d → oj.dst ≠ some d) (h3 : ∀ d, oj.dst = some d → d ∉ oi.looksAt ops)
    (hsi : ∀ cs b, oi.op ≠ .select cs b) (hsj : ∀ cs b, oj.op ≠ .select cs b) (hdj : ∀ c, oj.op ≠ .defer c)
    (hQ : ∀ c a w, ¬ Q (.panic c) a w) {K : Act → World → Prop} {a : Act} {w : World}
    (hy : YieldsW P ops chi oi v a) (h : wpOpIn F n P ops Q j K (a.put oi.dst v) w) :
    wpOpIn F n P ops Q j (fun a' w' => YieldsW P ops chi oi v a' ∧ K (a'.put oi.dst v) w') a w := by
  have keep : ∀ (a : Act), YieldsW P ops chi oi v a → ∀ u, YieldsW P ops chi oi v (a.put oj.dst u) := fun a hy u =>
    hy.of_same (execOp_put oi hsi a oj.dst u h3) (wanted_put oi a oj.dst u h3)
  unfold wpOpIn at *
  simp only [hj] at *
  rw [wanted_put oj a oi.dst v h1] at h
  split
  · rename_i hw
    simp only [hw, if_true] at h
    unfold Oper.wpIn at *
    refine ⟨fun f _ => hF.1 f, ?_⟩
    have h := h.2
    rw [Oper.semAt_eq _ _ _ hdj, execOp_put oj hsj a oi.dst v h1] at h
    rw [Oper.semAt_eq _ _ _ hdj]
    generalize (execOp a.eval oj).run P w = r at *
    cases r with
    | ok x w' =>
      cases x <;> simp only [Oper.uponIn] at h ⊢
      case value u => exact ⟨keep a hy u, by rw [← Act.put_comm a v u h2]; exact h⟩
      case skip => exact ⟨keep a hy _, by rw [← Act.put_comm a v undef h2]; exact h⟩
      case defer d =>
        refine ⟨?_, ?_⟩
        · have : YieldsW P ops chi oi v { a with defers := d :: a.defers } := hy.of_same rfl rfl
          exact keep _ this _
        · rw [← Act.put_comm _ v undef h2, ← Act.put_defers]
          exact h
      case enter f args =>
        refine ⟨h.1, CallsIn.mono h.2 fun e w'' he => ?_⟩
        cases e with
        | returned u => exact ⟨keep a hy u, by rw [← Act.put_comm a v u h2]; exact he⟩
        | panicked c => exact (hQ _ _ _ he).elim
        | outgrown => exact he
      case row row args => exact ⟨h.1, RowsIn.mono h.2 fun u w'' he => ⟨keep a hy u, by rw [← Act.put_comm a v u h2]; exact he⟩⟩
      case round l f tmps assign body =>
        refine ⟨h.1, RoundIn.mono h.2 fun e w'' he => ?_⟩
        cases e with
        | returned u => exact ⟨keep a hy u, by rw [← Act.put_comm a v u h2]; exact he⟩
        | panicked c => exact (hQ _ _ _ he).elim
        | outgrown => exact he
    | halt x w' =>
      cases x <;> simp only [Oper.uponIn] at h ⊢
      case panic u => exact (hQ _ _ _ h).elim
  · rename_i hw
    simp only [hw] at h
    exact ⟨fun f _ => hF.1 f, keep a hy _, by rw [← Act.put_comm a v undef h2]; exact h.2⟩

theorem bindsE_eq (e : Edge) : bindsE e = Region.binds .any e := by
  unfold bindsE Region.binds
  cases e.ground <;> rfl
theorem edgeOn_iff {i : Nat} : ∀ {es : List Edge}, edgeOn i es = true ↔ ∃ e ∈ es, Region.binds .any e = true ∧ e.on = i := by
  intro es
  induction es with
  | nil => simp [edgeOn]
  | cons e es ih =>
    simp only [edgeOn, Bool.or_eq_true, Bool.and_eq_true, nbeq, decide_eq_true_eq, ih, bindsE_eq, List.mem_cons]
    constructor
    · rintro (h | ⟨e', h1, h2⟩)
      · exact ⟨e, .inl rfl, h⟩
      · exact ⟨e', .inr h1, h2⟩
    · rintro ⟨e', h1 | h1, h2⟩
      · subst h1; exact .inl h2
      · exact .inr ⟨e', h1, h2⟩

/-- **An operation that may come up, and only looks, may be taken first.** -/
theorem wpAnyW_first {i : Nat} {oi : Oper} {v : Value} {chi : CH} (hF : FOk F) (hi : ops[i]? = some oi) (hsel : ∀ (j : Nat) (o : Oper), ops[j]? = some o → (∀ cs b, o.op ≠ .select cs b) ∧ ∀ c, o.op ≠ .defer c)
    (hQ : ∀ c a w, ¬ Q (.panic c) a w) (hidx : ∀ x ∈ chi, x.1 = i)
    (hfree : ∀ j oj, ops[j]? = some oj → j ≠ i → edgeOn i oj.after.toList = true ∨ edgeOn j oi.after.toList = true ∨ ((∀ d, oi.dst = some d → d ∉ oj.looksAt ops) ∧ (∀ d, oi.dst = some d → oj.dst ≠ some d) ∧ (∀ d, oj.dst = some d → d ∉ oi.looksAt ops))) :
    ∀ (fuel : Nat) (listed : Array Bool) (ch : CH) (a : Act) (w : World),
      i ∈ Region.ready .any ops listed → YieldsW P ops chi oi v a → SH (chi ++ ch) w →
      wpAnyW F n P ops Q fuel (listed.setIfInBounds i true) (chi ++ ch) (a.put oi.dst v) w → wpAnyW F n P ops Q (fuel + 1) listed ch a w := by
  intro fuel
  induction fuel with
  | zero =>
    intro listed ch a w hr hy hS H
    refine ⟨fun h => (by rw [h] at hr; cases hr), fun j hj oj hoj => ?_⟩
    by_cases hji : j = i
    · subst hji
      have : oi = oj := Option.some.inj (hi.symm.trans hoj)
      subst this
      exact hy.wpOpIn hF (hsel _ _ hi).2 hi (fun i p x hx => hS i p x (List.mem_append_left _ hx)) ⟨fun i p x hx => hS i p x (List.mem_append_right _ (chDrop_sub hx)), H⟩
    · have := ready_mono hj hji
      rw [H.1] at this
      cases this
  | succ fuel ih =>
    intro listed ch a w hr hy hS H
    refine ⟨fun h => (by rw [h] at hr; cases hr), fun j hj oj hoj => ?_⟩
    by_cases hji : j = i
    · subst hji
      have : oi = oj := Option.some.inj (hi.symm.trans hoj)
      subst this
      exact hy.wpOpIn hF (hsel _ _ hi).2 hi (fun i p x hx => hS i p x (List.mem_append_left _ hx)) ⟨fun i p x hx => hS i p x (List.mem_append_right _ (chDrop_sub hx)), wpAnyW_sub _ _ _ _ _ _ (fun x hx => List.mem_append_right _ (chDrop_sub hx)) H⟩
    · have h1 := H.2 j (ready_mono hj hji) oj hoj
      obtain ⟨hjun, oj', hoj', hall⟩ := mem_ready.1 hj
      have : oj = oj' := Option.some.inj (hoj.symm.trans hoj')
      subst this
      have hnot : edgeOn i oj.after.toList = false := by
        cases he : edgeOn i oj.after.toList with
        | false => rfl
        | true =>
          exfalso
          obtain ⟨e, he1, hb, heq⟩ := edgeOn_iff.1 he
          have h1 := hall e (by simpa using he1) hb
          have h0 := (mem_ready.1 hr).1
          rw [heq] at h1
          rcases Nat.lt_or_ge i listed.size with h' | h'
          · simp [h'] at h0 h1; rw [h0] at h1; cases h1
          · simp [Array.getElem?_eq_none h'] at h1
      have hnot2 : edgeOn j oi.after.toList = false := by
        cases he : edgeOn j oi.after.toList with
        | false => rfl
        | true =>
          exfalso
          obtain ⟨e, he1, hb, heq⟩ := edgeOn_iff.1 he
          obtain ⟨_, oi', hoi', halli⟩ := mem_ready.1 hr
          have : oi = oi' := Option.some.inj (hi.symm.trans hoi')
          subst this
          have h1 := halli e (by simpa using he1) hb
          rw [heq] at h1
          rcases Nat.lt_or_ge j listed.size with h' | h'
          · simp [h'] at hjun h1; rw [hjun] at h1; cases h1
          · simp [Array.getElem?_eq_none h'] at h1
      obtain ⟨f1, f2, f3⟩ := ((hfree j oj hoj hji).resolve_left (by rw [hnot]; simp)).resolve_left (by rw [hnot2]; simp)
      have h2 := wpOpIn_putW hF hoj f1 f2 f3 (hsel _ _ hi).1 (hsel _ _ hoj).1 (hsel _ _ hoj).2 hQ hy h1
      refine wpOpIn_mono (fun a' w' h3 => ?_) h2
      obtain ⟨k1, k2, k3⟩ := h3
      rw [chDrop_app hnot hidx] at k2 k3
      refine ⟨fun i p x hx => k2 i p x (List.mem_append_right _ hx), ih (listed.setIfInBounds j true) _ a' w' (ready_mono hr (Ne.symm hji)) k1 k2 ?_⟩
      rw [Array.setIfInBounds_comm _ _ hji]
      exact k3
end
end Go.Proofs.YtfpfagmmdiohbaaGreatDoor.Ev
