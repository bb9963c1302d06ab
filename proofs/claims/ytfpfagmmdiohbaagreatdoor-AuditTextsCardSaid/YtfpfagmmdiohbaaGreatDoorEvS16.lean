/-
  The engine is sound, 16: regions that draw their order (joined).
-/
import Derived.Test.YtfpfagmmdiohbaaGreatDoorEvS15
set_option linter.unusedVariables false
set_option linter.unusedSimpArgs false
namespace Go.Proofs.YtfpfagmmdiohbaaGreatDoor.Ev
open Go.RowKit

/-! ### Equal states -/
theorem Tr.eqb_eq {α : Type} {p : α → α → Bool} (hp : ∀ x y, p x y = true → x = y) : ∀ (t u : Tr α), Tr.eqb p t u = true → t = u := by
  intro t
  induction t with
  | e => intro u h; cases u <;> first | rfl | (simp [Tr.eqb] at h)
  | n l v r ihl ihr =>
    intro u h
    cases u with
    | e => simp [Tr.eqb] at h
    | n l' v' r' =>
      simp only [Tr.eqb, Bool.and_eq_true] at h
      obtain ⟨⟨h1, h2⟩, h3⟩ := h
      rw [ihl _ h2, ihr _ h3]
      congr 1
      cases v <;> cases v' <;> simp at h1 <;> first | rfl | rw [hp _ _ h1]
theorem natsEq_eq : ∀ {a b : List Nat}, natsEq a b = true → a = b := by
  intro a
  induction a with
  | nil => intro b h; cases b <;> first | rfl | (simp [natsEq] at h)
  | cons x xs ih => intro b h; cases b <;> simp [natsEq] at h; rw [h.1, ih h.2]
theorem eqbL_eq {l m : List AV} (h : AV.eqbL l m = true) : l = m := by
  have := eqb_eq (.agg l) (.agg m) (by simpa [AV.eqb] using h)
  injection this
theorem stEq_eq {a b : LoopState} (h : stEq a b = true) : a = b := by cases a <;> cases b <;> first | rfl | (simp [stEq] at h)
theorem Ex.eqb_eq {a b : Ex} (h : a.eqb b = true) : a = b := by
  cases a <;> cases b <;> simp [Ex.eqb] at h <;> first | rfl | rw [h]
theorem mapEqb_eq : ∀ {l m : List (AV × AV × Nat)}, Blk.eqb.mapEqb l m = true → l = m := by
  intro l
  induction l with
  | nil => intro m h; cases m <;> first | rfl | (simp [Blk.eqb.mapEqb] at h)
  | cons x l ih =>
    intro m h
    obtain ⟨a, b, c⟩ := x
    cases m with
    | nil => simp [Blk.eqb.mapEqb] at h
    | cons y m =>
      obtain ⟨a', b', c'⟩ := y
      simp [Blk.eqb.mapEqb] at h
      rw [eqb_eq _ _ h.1.1.1, eqb_eq _ _ h.1.1.2, h.1.2, ih h.2]
theorem Blk.eqb_eq (a b : Blk) (h : a.eqb b = true) : a = b := by
  cases a <;> cases b <;> simp [Blk.eqb] at h <;> try rfl
  · rw [eqbL_eq h.1, h.2]
  · rw [eqbL_eq h.1, h.2]
  · rw [eqbL_eq h]
  · rw [h.1, mapEqb_eq h.2]
  · rw [stEq_eq h.1.1.1.1, Ex.eqb_eq h.1.1.1.2, Tr.eqb_eq Ev.eqb_eq _ _ h.1.1.2, h.1.2, h.2]
theorem sameAS_eq {a a' : A} {s s' : S} (h : sameAS a s a' s' = true) : a = a' ∧ s.heap = s'.heap := by
  simp only [sameAS, Bool.and_eq_true, nbeq, decide_eq_true_eq] at h
  obtain ⟨⟨⟨h1, h2⟩, h3⟩, h4⟩ := h
  refine ⟨?_, Tr.eqb_eq Blk.eqb_eq _ _ h4⟩
  obtain ⟨t, n, m⟩ := a
  obtain ⟨t', n', m'⟩ := a'
  simp only at h1 h2 h3
  rw [h1, natsEq_eq h2, Tr.eqb_eq Ev.eqb_eq _ _ h3]

/-! ### What may come up -/
def MaskOk (ops : Array Oper) (mask : Nat) (listed : Array Bool) : Prop := listed.size = ops.size ∧ ∀ i, listed.getD i false = Nat.testBit mask i

section
variable {ops : Array Oper} {mask : Nat} {listed : Array Bool}

theorem mask_set {i : Nat} (hi : i < ops.size) (h : MaskOk ops mask listed) : MaskOk ops (Nat.lor mask (Nat.shiftLeft 1 i)) (listed.setIfInBounds i true) := by
  refine ⟨by simp [h.1], fun j => ?_⟩
  have e : Nat.testBit (Nat.lor mask (Nat.shiftLeft 1 i)) j = (Nat.testBit mask j || decide (j = i)) := by
    show Nat.testBit (mask ||| (1 <<< i)) j = _
    rw [Nat.testBit_or, Nat.testBit_shiftLeft]
    by_cases hj : j = i
    · subst hj; simp
    · by_cases hg : j ≥ i
      · have : j - i ≠ 0 := by omega
        simp [hj, hg, Nat.testBit_one_eq_true_iff_self_eq_zero, this]
      · simp [hj, hg]
  rw [e, ← h.2 j]
  by_cases hj : j = i
  · subst hj
    have : j < listed.size := by rw [h.1]; exact hi
    simp [this]
  · rw [getD_set_ne false (fun e => hj e.symm)]; simp [hj]

theorem depsOk_iff : ∀ {es : List Edge}, depsOk mask es = true ↔ ∀ e ∈ es, Region.binds .any e = true → Nat.testBit mask e.on = true := by
  intro es
  induction es with
  | nil => simp [depsOk]
  | cons e es ih =>
    simp only [depsOk, Bool.and_eq_true, Bool.or_eq_true, Bool.not_eq_true', ih, bindsE_eq, List.mem_cons]
    constructor
    · rintro ⟨h1, h2⟩ e' (rfl | h)
      · intro hb; rcases h1 with h1 | h1
        · rw [h1] at hb; cases hb
        · exact h1
      · exact h2 e' h
    · intro h
      refine ⟨?_, fun e' he => h e' (.inr he)⟩
      cases hb : Region.binds .any e with
      | false => exact .inl rfl
      | true => exact .inr (h e (.inl rfl) hb)

theorem readyL_mem {i : Nat} {o : Oper} : ∀ {l : List (Nat × Oper)}, (i, o) ∈ readyL mask l ↔ (i, o) ∈ l ∧ Nat.testBit mask i = false ∧ depsOk mask o.after.toList = true := by
  intro l
  induction l with
  | nil => simp [readyL]
  | cons x l ih =>
    obtain ⟨j, p⟩ := x
    simp only [readyL]
    cases c : (!Nat.testBit mask j && depsOk mask p.after.toList) with
    | true =>
      simp only [cond_true, List.mem_cons, Prod.mk.injEq, ih]
      simp only [Bool.and_eq_true, Bool.not_eq_true'] at c
      constructor
      · rintro (⟨rfl, rfl⟩ | ⟨h1, h2⟩)
        · exact ⟨.inl ⟨rfl, rfl⟩, c⟩
        · exact ⟨.inr h1, h2⟩
      · rintro ⟨⟨rfl, rfl⟩ | h1, h2⟩
        · exact .inl ⟨rfl, rfl⟩
        · exact .inr ⟨h1, h2⟩
    | false =>
      simp only [cond_false, List.mem_cons, Prod.mk.injEq, ih]
      constructor
      · rintro ⟨h1, h2⟩; exact ⟨.inr h1, h2⟩
      · rintro ⟨⟨rfl, rfl⟩ | h1, h2⟩
        · exfalso; rw [h2.1, h2.2] at c; simp at c
        · exact ⟨h1, h2⟩

theorem indexed0 {i : Nat} {o : Oper} : (i, o) ∈ indexed 0 ops.toList ↔ ops[i]? = some o := by
  rw [indexed_get]; simp

theorem ready_iff (h : MaskOk ops mask listed) {i : Nat} : i ∈ Region.ready .any ops listed ↔ ∃ o, (i, o) ∈ readyL mask (indexed 0 ops.toList) := by
  rw [mem_ready]
  have key : ∀ o, ops[i]? = some o → (listed.getD i true = false ↔ Nat.testBit mask i = false) := by
    intro o ho
    have hlt : i < listed.size := by rw [h.1]; exact (Array.getElem?_eq_some_iff.1 ho).1
    rw [← h.2 i]
    simp [hlt]
  constructor
  · rintro ⟨h1, o, h2, h3⟩
    refine ⟨o, readyL_mem.2 ⟨indexed0.2 h2, (key o h2).1 h1, depsOk_iff.2 fun e he hb => ?_⟩⟩
    rw [← h.2]; exact h3 e (by simpa using he) hb
  · rintro ⟨o, ho⟩
    obtain ⟨h1, h2, h3⟩ := readyL_mem.1 ho
    have h1' := indexed0.1 h1
    refine ⟨(key o h1').2 h2, o, h1', fun e he hb => ?_⟩
    rw [h.2]; exact depsOk_iff.1 h3 e (by simpa using he) hb

/-! ### Apart -/
theorem memO_not {d : Tmp} : ∀ {l : List Operand}, memO d l = false → d ∉ l.filterMap fun | .tmp t => some t | _ => none := by
  intro l
  induction l with
  | nil => intro _ h; simp at h
  | cons x l ih =>
    intro h hm
    cases x with
    | tmp t =>
      simp only [memO, Bool.or_eq_false_iff, nbeq, decide_eq_false_iff_not] at h
      simp only [List.filterMap_cons, List.mem_cons] at hm
      rcases hm with hm | hm
      · exact h.1 hm.symm
      · exact ih h.2 hm
    | const v => exact ih h (by simpa using hm)
    | global v => exact ih h (by simpa using hm)
    | func v => exact ih h (by simpa using hm)
theorem looksA_not {d : Tmp} {o : Oper} (h : looksA ops.toList d o = false) : d ∉ o.looksAt ops := by
  simp only [looksA, Bool.or_eq_false_iff] at h
  unfold Oper.looksAt
  rw [List.mem_append]
  rintro (hm | hm)
  · exact memO_not h.1 hm
  · have h2 := h.2
    unfold guardLooks at h2
    cases hg : o.guard with
    | none => rw [hg] at hm; simp at hm
    | some gw =>
      obtain ⟨g, w⟩ := gw
      rw [hg] at hm h2
      simp only [lget_eq, Array.getElem?_toList] at h2
      simp only at hm
      cases hog : ops[g]? with
      | none => rw [hog] at hm; simp at hm
      | some og =>
        rw [hog] at hm h2
        simp only [Option.bind_some] at hm h2
        cases hd : og.dst with
        | none => rw [hd] at hm; simp at hm
        | some t => rw [hd] at hm h2; simp at hm h2; exact h2 hm.symm
theorem apartA_spec {x y : Oper} (h : apartA ops.toList x y = true) :
    (∀ d, x.dst = some d → d ∉ y.looksAt ops) ∧ (∀ d, x.dst = some d → y.dst ≠ some d) ∧ (∀ d, y.dst = some d → d ∉ x.looksAt ops) := by
  simp only [apartA, Bool.and_eq_true] at h
  obtain ⟨h1, h2⟩ := h
  refine ⟨fun d hd => ?_, fun d hd he => ?_, fun d hd => ?_⟩
  · rw [hd] at h1; simp only [Bool.and_eq_true, Bool.not_eq_true'] at h1; exact looksA_not h1.1
  · rw [hd] at h1; simp only [Bool.and_eq_true, he] at h1; simp at h1
  · rw [hd] at h2; simp only [Bool.not_eq_true'] at h2; exact looksA_not h2

theorem noSel_spec : ∀ {l : List Oper}, noSel l = true → ∀ o ∈ l, (∀ cs b, o.op ≠ .select cs b) ∧ ∀ c, o.op ≠ .defer c := by
  intro l
  induction l with
  | nil => intro _ o h; cases h
  | cons x l ih =>
    intro h o ho
    simp only [noSel, Bool.and_eq_true] at h
    cases ho with
    | head =>
      have h1 := h.1
      refine ⟨fun cs b e => ?_, fun c e => ?_⟩ <;> (rw [e] at h1; simp at h1)
    | tail _ ho => exact ih h.2 o ho

theorem tidy_spec (h : tidy ops.toList = true) : (∀ (j : Nat) (o : Oper), ops[j]? = some o → (∀ cs b, o.op ≠ .select cs b) ∧ ∀ c, o.op ≠ .defer c) ∧
    ∀ i o j p, ops[i]? = some o → ops[j]? = some p → j ≠ i → edgeOn i p.after.toList = true ∨ edgeOn j o.after.toList = true ∨ apartA ops.toList o p = true := by
  simp only [tidy, Bool.and_eq_true] at h
  obtain ⟨h1, h2⟩ := h
  refine ⟨fun j o ho => noSel_spec h1 o (by have := Array.mem_of_getElem? ho; simpa using this), ?_⟩
  have with' : ∀ (i : Nat) (o : Oper) (l : List (Nat × Oper)), tidyWith ops.toList i o l = true → ∀ j p, (j, p) ∈ l → i = j ∨ edgeOn i p.after.toList = true ∨ edgeOn j o.after.toList = true ∨ apartA ops.toList o p = true := by
    intro i o l
    induction l with
    | nil => intro _ j p hm; cases hm
    | cons x l ih =>
      intro ht j p hm
      obtain ⟨j0, p0⟩ := x
      simp only [tidyWith, Bool.and_eq_true, Bool.or_eq_true, nbeq, decide_eq_true_eq] at ht
      cases hm with
      | head => rcases ht.1 with ((h | h) | h) | h
                · exact .inl h
                · exact .inr (.inl h)
                · exact .inr (.inr (.inl h))
                · exact .inr (.inr (.inr h))
      | tail _ hm => exact ih ht.2 j p hm
  have all' : ∀ (idx l : List (Nat × Oper)), tidyL ops.toList idx l = true → ∀ i o, (i, o) ∈ l → tidyWith ops.toList i o idx = true := by
    intro idx l
    induction l with
    | nil => intro _ i o hm; cases hm
    | cons x l ih =>
      intro ht i o hm
      obtain ⟨i0, o0⟩ := x
      simp only [tidyL, Bool.and_eq_true] at ht
      cases hm with
      | head => exact ht.1
      | tail _ hm => exact ih ht.2 i o hm
  intro i o j p hi hj hne
  have := with' i o _ (all' _ _ h2 i o (indexed0.2 hi)) j p (indexed0.2 hj)
  exact this.resolve_left (fun e => hne e.symm)
end

theorem firstQ_some {g : G} {all : List Oper} {a : A} {s : S} {i : Nat} {o : Oper} {v : AV} {h : Held} : ∀ {l : List (Nat × Oper)}, firstQ g all a s l = some (i, o, v, h) → (i, o) ∈ l ∧ quietA g all a s i o = some (v, h) := by
  intro l
  induction l with
  | nil => intro h; cases h
  | cons x l ih =>
    intro h
    obtain ⟨j, p⟩ := x
    simp only [firstQ] at h
    split at h
    · rename_i v' h' hq; cases h; exact ⟨List.mem_cons_self .., hq⟩
    · obtain ⟨h1, h2⟩ := ih h; exact ⟨List.mem_cons_of_mem _ h1, h2⟩

theorem othersOk_mem {f : Nat → Oper → AnyR} {a1 : A} {s2 : S} : ∀ {l : List (Nat × Oper)}, othersOk f a1 s2 l = true → ∀ j o, (j, o) ∈ l → ∃ a s r, f j o = .ok a s r ∧ sameAS a s a1 s2 = true := by
  intro l
  induction l with
  | nil => intro _ j o h; cases h
  | cons x l ih =>
    intro h j o hm
    obtain ⟨j0, o0⟩ := x
    simp only [othersOk, Bool.and_eq_true] at h
    cases hm with
    | head =>
      have h1 := h.1
      split at h1
      · rename_i a s r hf; exact ⟨a, s, r, hf, h1⟩
      · cases h1
    | tail _ hm => exact ih h.2 j o hm

theorem setNext_heap (s : S) (lo : Option Rec) (j : Nat) : (setNext s lo j).heap = s.heap := by
  unfold setNext
  split
  · split <;> rfl
  · rfl

section
variable {P : Program} {g : G} {F : Fence} {n : Nat} {ops : Array Oper} {Q : Exit → Act → World → Prop} {B : World}

theorem runAny_ok {ih : Ih} {lv : Lv} (hI : IhOk P g ih) (hF : FOk F) (hQ : ∀ c a w, ¬ Q (.panic c) a w) (ht : tidy ops.toList = true) :
    ∀ (fuel mask : Nat) (a : A) (s : S) (held : Held) (lo : Option Rec) (a' : A) (s' : S) (r : Rec), runAny ih lv g ops.toList (indexed 0 ops.toList) fuel mask a s held lo = .ok a' s' r →
      ∀ (V : Env) (A : Act) (w : World) (ch : CH) (listed : Array Bool), GOk P g V.σ → LvOk V lv → Rel P V s B w → ARel V a A → HRel V held ch → SH ch w → MaskOk ops mask listed →
        (∀ V' A' w', Ext V V' → Rel P V' s' B w' → ARel V' a' A' → Q .normal A' w') → wpAnyW F n P ops Q fuel listed ch A w := by
  obtain ⟨tsel, tap⟩ := tidy_spec ht
  intro fuel
  induction fuel with
  | zero =>
    intro mask a s held lo a' s' r h V A w ch listed hG hL hR hA hH hS hM hK
    simp only [runAny] at h
    split at h
    · rename_i hr; cases h
      refine ⟨?_, hK V A w (Ext.refl V) hR hA⟩
      apply List.eq_nil_iff_forall_not_mem.2
      intro i hi
      obtain ⟨o, ho⟩ := (ready_iff hM).1 hi
      rw [hr] at ho; cases ho
    · cases h
  | succ fuel IH =>
    intro mask a s held lo a' s' r h V A w ch listed hG hL hR hA hH hS hM hK
    -- one operation, then the rest
    have step : ∀ (lo : Option Rec) (j : Nat) (oj : Oper) (a2 : Ev.A) (s2 : S) (r2 : Rec), ops[j]? = some oj → goAny ih lv g ops.toList (runAny ih lv g ops.toList (indexed 0 ops.toList) fuel) mask a s held lo j oj = .ok a2 s2 r2 →
        (∀ V' A' w', Ext V V' → Rel P V' s2 B w' → ARel V' a2 A' → Q .normal A' w') →
        wpOpIn F n P ops Q j (fun A' w' => SH (chDrop oj.after.toList ch) w' ∧ wpAnyW F n P ops Q fuel (listed.setIfInBounds j true) (chDrop oj.after.toList ch) A' w') A w := by
      intro lo j oj a2 s2 r2 hj hg hK2
      unfold goAny at hg
      split at hg
      · rename_i a3 s3 hd
        cases ck : heldOk s3 (heldDrop oj.after.toList held) with
        | false => rw [ck] at hg; cases hg
        | true =>
          rw [ck] at hg; simp only [cond_true] at hg
          refine doOp_ok hI hG hF hL (hR.next (setNext_heap s lo j)) hA hj hd (fun V1 A1 w1 k1 k2 k3 => ?_)
          have hH1 := (hH.drop oj.after.toList).mono k1
          have hS1 := heldOk_SH k2 hH1 ck
          refine ⟨hS1, IH _ _ _ _ _ _ _ _ hg V1 A1 w1 _ _ (k1.σ_eq hG) (hL.mono k1) k2 k3 hH1 hS1 (mask_set (Array.getElem?_eq_some_iff.1 hj).1 hM) (fun V2 A2 w2 q1 q2 q3 => hK2 V2 A2 w2 (k1.trans q1) q2 q3)⟩
      · cases hg
    simp only [runAny] at h
    split at h
    · rename_i hr; cases h
      have hnil : Region.ready .any ops listed = [] := by
        apply List.eq_nil_iff_forall_not_mem.2
        intro i hi
        obtain ⟨o, ho⟩ := (ready_iff hM).1 hi
        rw [hr] at ho; cases ho
      exact ⟨fun _ => hK V A w (Ext.refl V) hR hA, fun i hi => by rw [hnil] at hi; cases hi⟩
    · rename_i i0 o0 rest hr
      split at h
      · -- an operation that only looks
        rename_i i o v hh hfq
        obtain ⟨hm, hq⟩ := firstQ_some hfq
        rw [← hr] at hm
        have hio := indexed0.1 (readyL_mem.1 hm).1
        obtain ⟨x, chi, q1, q2, q3, q4, q5⟩ := quiet_ok hG hR hA hq
        split at h
        · rename_i a1 ha1
          have hSS : SH (chi ++ ch) w := fun i' p x hx => by
            rcases List.mem_append.1 hx with hx | hx
            · exact q3 i' p x hx
            · exact hS i' p x hx
          refine wpAnyW_first hF hio tsel hQ q4 (fun j oj hj hne => ?_) fuel listed ch A w ((ready_iff hM).2 ⟨o, hm⟩) q5 hSS ?_
          · rcases tap i o j oj hio hj hne with h1 | h1 | h1
            · exact .inl h1
            · exact .inr (.inl h1)
            · exact .inr (.inr (apartA_spec h1))
          · exact IH _ _ _ _ _ _ _ _ h V _ w _ _ hG hL hR (hA.put ha1 q1) (q2.app hH) hSS (mask_set (Array.getElem?_eq_some_iff.1 hio).1 hM) hK
        · cases h
      · -- all that may come up
        split at h
        · cases h
        · rename_i a1 s1 r1 hg1
          cases ck : othersOk (goAny ih lv g ops.toList (runAny ih lv g ops.toList (indexed 0 ops.toList) fuel) mask a s held (loOr lo (addRec s lo i0 r1))) a1 s1 rest with
          | false => rw [ck] at h; cases h
          | true =>
            rw [ck] at h; simp only [cond_true] at h; cases h
            refine ⟨fun hn => ?_, fun j hj oj hoj => ?_⟩
            · have : i0 ∈ Region.ready .any ops listed := (ready_iff hM).2 ⟨o0, by rw [hr]; exact List.mem_cons_self ..⟩
              rw [hn] at this; cases this
            · obtain ⟨oj', hm⟩ := (ready_iff hM).1 hj
              have hoj' := indexed0.1 (readyL_mem.1 hm).1
              have : oj = oj' := Option.some.inj (hoj.symm.trans hoj')
              subst this
              rw [hr] at hm
              rcases List.mem_cons.1 hm with hm | hm
              · have e1 : j = i0 := congrArg Prod.fst hm
                have e2 : oj = o0 := congrArg Prod.snd hm
                subst e1; subst e2
                exact step lo _ _ _ _ r1 hoj hg1 hK
              · obtain ⟨a2, s2, r2, h1, h2⟩ := othersOk_mem ck j oj hm
                obtain ⟨e1, e2⟩ := sameAS_eq h2
                subst e1
                exact step _ j oj a2 s2 r2 hoj h1 (fun V' A' w' k1 k2 k3 => hK V' A' w' k1 (k2.next e2.symm) k3)

theorem runDraw_ok {ih : Ih} {lv : Lv} (hI : IhOk P g ih) (hF : FOk F) (hQ : ∀ c a w, ¬ Q (.panic c) a w) {V : Env} {a a' : A} {A : Act} {s s' : S} {w : World} {id : Nat} {e : Ex} (hG : GOk P g V.σ) (hL : LvOk V lv) (hR : Rel P V s B w) (hA : ARel V a A)
    (h : runDraw ih lv g ops.toList a s = .code e a' s') (hK : ∀ V' A' w', Ext V V' → Rel P V' s' B w' → ARel V' a' A' → Q (exOf e) A' w') : (Code.region id ops true).wpIn F n P Q A w := by
  unfold runDraw at h
  cases ht : tidy ops.toList with
  | false => rw [ht] at h; cases h
  | true =>
    rw [ht] at h; simp only [cond_true] at h
    split at h
    · rename_i a1 s1 r1 hr; cases h
      rw [llen_eq] at hr
      refine wpIn_region_any hG.mixed (wpAny_of_W _ _ [] _ _ ?_)
      have := runAny_ok (F := F) (n := n) (Q := Q) (B := B) hI hF hQ ht _ _ _ _ _ _ _ _ _ hr V A { w with drawn := w.drawn + 1 } [] (Array.replicate ops.size false) hG hL (hR.drew _) hA trivial (fun _ _ _ h => by cases h)
        ⟨by simp, fun i => by simp [Array.getD_eq_getD_getElem?, Array.getElem?_replicate]; split <;> rfl⟩ hK
      simpa using this
    · cases h
end
end Go.Proofs.YtfpfagmmdiohbaaGreatDoor.Ev
