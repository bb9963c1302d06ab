/-
  Plain: where the words of a written expression stand when one is replaced; blanks between words change places alone. No program in sight.
-/
import Derived.Test.YtjnlgaeedcklaaaGreatDoorXPlain4
set_option linter.unusedVariables false
set_option linter.unusedSimpArgs false
namespace Go.Proofs.YtjnlgaeedcklaaaGreatDoor
namespace Xs
open Fs (Bytes)

/-- A word: not empty, without blanks. -/
def Nb (t : Bytes) : Prop := t.all (fun c => !blank c) = true ∧ t ≠ []
theorem nb_of_tok {t : Bytes} (h : t.all tok = true ∧ t ≠ []) : Nb t := by
  refine ⟨?_, h.2⟩
  have h1 := h.1
  rw [List.all_eq_true] at h1 ⊢
  intro c hc
  rw [(tok_no (h1 c hc)).1]; rfl

theorem cut_joinW : ∀ (ts : List Bytes) (i : Nat), (∀ t ∈ ts, Nb t) → cut (joinS ts) i i [] = placed i ts := by
  intro ts
  induction ts with
  | nil => intro i _; exact cut_nil i
  | cons t ts ih =>
    intro i h
    obtain ⟨hb, h2⟩ := h t (by simp)
    rcases ts with _ | ⟨u, ts⟩
    · rw [joinS]
      have := cut_word t [] i i [] hb (by intro c h; cases h) (by simpa using h2)
      rw [List.append_nil, List.nil_append] at this
      rw [this, cut_nil]; rfl
    · show cut (t ++ 32 :: joinS (u :: ts)) i i [] = _
      have := cut_word t (32 :: joinS (u :: ts)) i i [] hb (by intro c h; simp at h; subst h; rfl) (by simpa using h2)
      rw [List.nil_append] at this
      rw [this, cut_blank _ _ _ _ (by rfl), ih _ fun v hv => h v (List.mem_cons_of_mem _ hv)]
      rfl

/-- The lengths of texts together. -/
def lens : List Bytes → Nat
  | [] => 0
  | t :: ts => t.length + lens ts
theorem lens_append (a b : List Bytes) : lens (a ++ b) = lens a + lens b := by
  induction a with
  | nil => simp [lens]
  | cons t a ih => simp [lens, ih]; omega
theorem placed_append (b : List Bytes) : ∀ (a : List Bytes) (i : Nat), placed i (a ++ b) = placed i a ++ placed (i + a.length + lens a) b := by
  intro a
  induction a with
  | nil => intro i; simp [placed, lens]
  | cons t a ih =>
    intro i
    rw [List.cons_append, placed, ih, placed, List.cons_append, List.length_cons, lens]
    rw [show i + t.length + 1 + a.length + lens a = i + (a.length + 1) + (t.length + lens a) from by omega]

/-- The fields of the words of a written expression. -/
theorem texts_parse {K : Nat → Fs.Kind} (hK : Kinds K) {x : Ex} (hc : checkB K x = true) :
    ∀ (n : Nat) (t : Bytes), (texts K x)[n]? = some t → (Fs.parse (K (6 - (texts K x).length + n)) t).2.2 = (0, 0) := by
  have hl := texts_len K x
  have g := fun i s hi hs => (txt_ok hK hc (i := i) (s := s) hi hs).2.1
  have g0 := g 0 x.second (by omega) rfl
  have g1 := g 1 x.minute (by omega) rfl
  have g2 := g 2 x.hour (by omega) rfl
  have g3 := g 3 x.day (by omega) rfl
  have g4 := g 4 x.month (by omega) rfl
  have g5 := g 5 x.week (by omega) rfl
  intro n t ht
  rw [hl]
  by_cases h1 : x.second = 1
  · rw [texts_eq, if_pos h1, List.nil_append] at ht
    rw [if_pos h1]
    rcases n with _ | _ | _ | _ | _ | n
    · simp at ht; subst ht; rw [g1]
    · simp at ht; subst ht; rw [g2]
    · simp at ht; subst ht; rw [g3]
    · simp at ht; subst ht; rw [g4]
    · simp at ht; subst ht; rw [g5]
    · simp at ht
  · rw [texts_eq, if_neg h1] at ht
    rw [if_neg h1]
    rcases n with _ | _ | _ | _ | _ | _ | n
    · simp at ht; subst ht; rw [g0]
    · simp at ht; subst ht; rw [g1]
    · simp at ht; subst ht; rw [g2]
    · simp at ht; subst ht; rw [g3]
    · simp at ht; subst ht; rw [g4]
    · simp at ht; subst ht; rw [g5]
    · simp at ht

/-- Words that are read one by one are read together. -/
theorem fields_all (K : Nat → Fs.Kind) : ∀ (ts : List Bytes) (j i : Nat), (∀ n t, ts[n]? = some t → (Fs.parse (K (j + n)) t).2.2.2 = 0) → ∃ gs, fields K j (placed i ts) = .ok gs := by
  intro ts
  induction ts with
  | nil => intro j i _; exact ⟨[], rfl⟩
  | cons t ts ih =>
    intro j i h
    have h0 := h 0 t rfl
    rw [Nat.add_zero] at h0
    obtain ⟨gs, hg⟩ := ih (j + 1) (i + t.length + 1) fun n u hu => by
      have := h (n + 1) u (by simpa using hu)
      rw [show j + 1 + n = j + (n + 1) from by omega]; exact this
    exact ⟨_, by rw [placed, fields, if_pos h0, hg]⟩

/-- One word is another: what is read of it, and where, decides. -/
theorem place_law {K : Nat → Fs.Kind} (hK : Kinds K) {x : Ex} (hc : checkB K x = true) (k : Nat) (hk : k < (texts K x).length) (w : Bytes) (hw : Nb w) :
    ((Fs.parse (K (6 - (texts K x).length + k)) w).2.2.2 = 0 → (parse K (joinS ((texts K x).set k w))).2 = (0, 0)) ∧
    ((Fs.parse (K (6 - (texts K x).length + k)) w).2.2.2 ≠ 0 → (parse K (joinS ((texts K x).set k w))).2 = (k + lens ((texts K x).take k) + (Fs.parse (K (6 - (texts K x).length + k)) w).2.2.1, (Fs.parse (K (6 - (texts K x).length + k)) w).2.2.2)) := by
  have hp := texts_parse hK hc
  have hg := texts_good hK hc
  have hl := texts_len K x
  generalize texts K x = ts at *
  have hn : ts.length = 5 ∨ ts.length = 6 := by rw [hl]; split <;> simp
  have hset : ts.set k w = ts.take k ++ w :: ts.drop (k + 1) := List.set_eq_take_append_cons_drop .. |>.trans (by rw [if_pos hk])
  have hnb : ∀ t ∈ ts.set k w, Nb t := by
    intro t ht
    rw [hset, List.mem_append, List.mem_cons] at ht
    rcases ht with ht | rfl | ht
    · exact nb_of_tok (hg t (List.mem_of_mem_take ht))
    · exact hw
    · exact nb_of_tok (hg t (List.mem_of_mem_drop ht))
  have hcut : words (joinS (ts.set k w)) = placed 0 (ts.set k w) := cut_joinW _ 0 hnb
  have hpl : (placed 0 (ts.set k w)).length = ts.length := by rw [placed_len, List.length_set]
  rw [parse_many K _ (by rw [hcut, hpl]; omega), hcut]
  have htl : (ts.take k).length = k := by rw [List.length_take]; omega
  have hsplit : placed 0 (ts.set k w) = placed 0 (ts.take k) ++ (k + lens (ts.take k), w) :: placed (k + lens (ts.take k) + w.length + 1) (ts.drop (k + 1)) := by
    rw [hset, placed_append, htl, placed, Nat.zero_add]
  have hpre : ∃ gs, fields K (6 - ts.length) (placed 0 (ts.take k)) = .ok gs := fields_all K _ _ _ fun n t ht => by
    rw [List.getElem?_take] at ht
    split at ht
    · rw [hp n t ht]
    · cases ht
  constructor
  · intro h0
    obtain ⟨gs, hgs⟩ := fields_all K (ts.set k w) (6 - ts.length) 0 fun n t ht => by
      rw [List.getElem?_set] at ht
      split at ht
      · rename_i hkn
        subst hkn
        injection ht with ht
        subst ht
        exact h0
      · rw [hp n t ht]
    rw [read_ok (f := 6 - ts.length) (by rw [hpl]; omega) (by omega) hgs]
  · intro h0
    obtain ⟨gs, hgs⟩ := hpre
    have := fields_bad_next _ _ (k + lens (ts.take k)) w (placed (k + lens (ts.take k) + w.length + 1) (ts.drop (k + 1))) hgs (by rw [placed_len, htl]; exact h0)
    rw [placed_len, htl, ← hsplit] at this
    rw [read_bad (f := 6 - ts.length) (by rw [hpl]; omega) (by omega) this]

/-- Blanks, a word, blanks, a word, ..: a text of such pairs. -/
def spaced : List (Bytes × Bytes) → Bytes
  | [] => []
  | (b, w) :: l => b ++ (w ++ spaced l)
/-- The places of its words. -/
def spots : Nat → List (Bytes × Bytes) → List (Nat × Bytes)
  | _, [] => []
  | i, (b, w) :: l => (i + b.length, w) :: spots (i + b.length + w.length) l
theorem cut_spaced (r : Bytes) (hr : r.all blank = true) : ∀ (l : List (Bytes × Bytes)) (i : Nat), (∀ p ∈ l, p.1.all blank = true ∧ Nb p.2) → (∀ p ∈ l.tail, p.1 ≠ []) → cut (spaced l ++ r) i i [] = spots i l := by
  intro l
  induction l with
  | nil =>
    intro i _ _
    rw [spaced, List.nil_append, ← List.append_nil r, cut_from r [] i hr, cut_nil]; rfl
  | cons p l ih =>
    intro i h ht
    obtain ⟨b, w⟩ := p
    obtain ⟨hb, hw, hne⟩ := h (b, w) (by simp)
    rw [spaced, List.append_assoc, List.append_assoc, cut_from b _ i hb]
    have hhead : ∀ c, (spaced l ++ r)[0]? = some c → blank c = true := by
      intro c hc
      rcases l with _ | ⟨⟨b', w'⟩, l⟩
      · rw [spaced, List.nil_append] at hc
        exact (List.all_eq_true.1 hr) c (List.mem_of_getElem? hc)
      · have hb' := ht (b', w') (by simp)
        have ha' := (h (b', w') (by simp)).1
        rw [spaced, List.append_assoc] at hc
        rcases b' with _ | ⟨d, b'⟩
        · exact absurd rfl hb'
        · rw [List.cons_append, List.getElem?_cons_zero] at hc
          injection hc with hc
          subst hc
          exact (List.all_eq_true.1 ha') d (by simp)
    rw [cut_word w _ _ _ [] hw hhead (by simpa using hne), List.nil_append, spots]
    rw [ih _ (fun q hq => h q (List.mem_cons_of_mem _ hq)) fun q hq => ht q (by rw [List.tail_cons]; exact List.mem_of_mem_tail hq)]

theorem spots_len : ∀ (l : List (Bytes × Bytes)) (i : Nat), (spots i l).length = l.length := by
  intro l
  induction l with
  | nil => intro i; rfl
  | cons p l ih => intro i; rw [spots, List.length_cons, ih, List.length_cons]
theorem spots_word : ∀ (l : List (Bytes × Bytes)) (i : Nat), (spots i l).map Prod.snd = l.map Prod.snd := by
  intro l
  induction l with
  | nil => intro i; rfl
  | cons p l ih => intro i; rw [spots, List.map_cons, List.map_cons, ih]
theorem placed_word : ∀ (l : List Bytes) (i : Nat), (placed i l).map Prod.snd = l := by
  intro l
  induction l with
  | nil => intro i; rfl
  | cons p l ih => intro i; rw [placed, List.map_cons, ih]
/-- The place of a word within a text: behind those ahead of it. -/
theorem spots_at : ∀ (l : List (Bytes × Bytes)) (i k : Nat) (p : Bytes × Bytes), l[k]? = some p → ((spots i l).getD k (0, [])).1 = i + (spaced (l.take k)).length + p.1.length := by
  intro l
  induction l with
  | nil => intro i k p h; simp at h
  | cons q l ih =>
    intro i k p h
    rcases k with _ | k
    · simp at h; subst h; simp [spots, spaced]
    · rw [List.getElem?_cons_succ] at h
      rw [spots, List.getD_cons_succ, ih _ k p h, List.take_succ_cons, spaced, List.length_append, List.length_append]
      omega

/-- What is read does not ask where the words stand, if all is right. -/
theorem fields_same (K : Nat → Fs.Kind) : ∀ (a b : List (Nat × Bytes)) (j : Nat) (gs : List (Nat × Bool)), a.map Prod.snd = b.map Prod.snd → fields K j a = .ok gs → fields K j b = .ok gs := by
  intro a
  induction a with
  | nil => intro b j gs h hf; rcases b with _ | ⟨q, b⟩; exact hf; cases h
  | cons p a ih =>
    intro b j gs h hf
    rcases b with _ | ⟨q, b⟩
    · cases h
    · obtain ⟨pa, pw⟩ := p
      obtain ⟨qa, qw⟩ := q
      simp only [List.map_cons, List.cons.injEq] at h
      obtain ⟨rfl, h⟩ := h
      rw [fields] at hf ⊢
      split at hf
      · rename_i hp
        rw [if_pos hp]
        split at hf
        · rename_i l' hl
          rw [ih b _ l' h hl]; exact hf
        · cases hf
      · cases hf

/-- The law of blanks. -/
theorem blank_law {K : Nat → Fs.Kind} (hK : Kinds K) {x : Ex} (hc : checkB K x = true) (l : List (Bytes × Bytes)) (r : Bytes) (hw : l.map Prod.snd = texts K x) (hb : ∀ p ∈ l, p.1.all blank = true) (ht : ∀ p ∈ l.tail, p.1 ≠ []) (hr : r.all blank = true) :
    parse K (spaced l ++ r) = (x, 0, 0) ∧ ∃ n, (parse K (spaced l ++ r ++ [32, 42, 32, 42, 9, 42])).2 = (n, 10) ∧ 0 < n ∧ n < (spaced l ++ r).length + 6 := by
  have hg := texts_good hK hc
  have hl := texts_len K x
  have hlen : l.length = (texts K x).length := by rw [← hw, List.length_map]
  have hn : l.length = 5 ∨ l.length = 6 := by rw [hlen, hl]; split <;> simp
  have hnb : ∀ p ∈ l, p.1.all blank = true ∧ Nb p.2 := fun p hp => ⟨hb p hp, nb_of_tok (hg p.2 (by rw [← hw]; exact List.mem_map_of_mem hp))⟩
  have hwords : words (spaced l ++ r) = spots 0 l := cut_spaced r hr l 0 hnb ht
  constructor
  · have hback := back hK hc
    have hwj := words_join hg
    rw [parse_many K _ (by rw [hwords, spots_len]; omega), hwords]
    rw [parse_many K _ (by rw [hwj, placed_len]; omega), hwj] at hback
    have hp := texts_parse hK hc
    obtain ⟨gs, hgs⟩ := fields_all K (texts K x) (6 - (texts K x).length) 0 fun n t ht => by rw [hp n t ht]
    have h2 := fields_same K _ (spots 0 l) _ gs (by rw [placed_word, spots_word, hw]) hgs
    rw [read_ok (f := 6 - (texts K x).length) (by rw [placed_len]; omega) (by omega) hgs] at hback
    rw [read_ok (f := 6 - (texts K x).length) (by rw [spots_len, hlen]; omega) (by omega) h2]
    exact hback
  · have e : spaced l ++ r ++ [32, 42, 32, 42, 9, 42] = spaced (l ++ [(r ++ [32], [42]), ([32], [42]), ([9], [42])]) ++ [] := by
      have happ : ∀ (a b : List (Bytes × Bytes)), spaced (a ++ b) = spaced a ++ spaced b := by
        intro a b
        induction a with
        | nil => rfl
        | cons p a ih => obtain ⟨u, v⟩ := p; simp [spaced, ih]
      rw [happ]
      simp [spaced]
    have hnb2 : ∀ p ∈ l ++ [(r ++ [32], [42]), ([32], [42]), ([9], [42])], p.1.all blank = true ∧ Nb p.2 := by
      intro p hp
      rw [List.mem_append] at hp
      rcases hp with hp | hp
      · exact hnb p hp
      · simp at hp
        rcases hp with rfl | rfl | rfl
        · exact ⟨by rw [List.all_append, hr]; rfl, rfl, by simp⟩
        · exact ⟨by decide, by decide, by simp⟩
        · exact ⟨by decide, by decide, by simp⟩
    have ht2 : ∀ p ∈ (l ++ [(r ++ [32], [42]), ([32], [42]), ([9], [42])]).tail, p.1 ≠ [] := by
      intro p hp
      rcases l with _ | ⟨q, l⟩
      · simp at hn
      · rw [List.cons_append, List.tail_cons, List.mem_append] at hp
        rcases hp with hp | hp
        · exact ht p hp
        · simp at hp
          rcases hp with rfl | rfl | rfl <;> simp
    have hwords2 := cut_spaced [] rfl _ 0 hnb2 ht2
    have hlen2 : (l ++ [(r ++ [32], [42]), ([32], [42]), ([9], [42])]).length = l.length + 3 := by simp
    have hwd : words (spaced l ++ r ++ [32, 42, 32, 42, 9, 42]) = spots 0 (l ++ [(r ++ [32], [42]), ([32], [42]), ([9], [42])]) := by rw [e]; exact hwords2
    rw [parse_many K _ (by rw [hwd, spots_len, hlen2]; omega), hwd]
    rw [read, if_neg (by rw [spots_len, hlen2]; omega), if_pos (by rw [spots_len, hlen2]; omega)]
    refine ⟨_, rfl, ?_⟩
    have happ : ∀ (a b : List (Bytes × Bytes)), spaced (a ++ b) = spaced a ++ spaced b := by
      intro a b
      induction a with
      | nil => rfl
      | cons p a ih => obtain ⟨u, v⟩ := p; simp [spaced, ih]
    rcases hn with h5 | h6
    · rw [spots_at _ 0 6 ([32], [42]) (by rw [List.getElem?_append_right (by omega), h5]; rfl)]
      rw [List.take_append, h5, List.take_of_length_le (by omega), happ]
      simp [spaced]
      omega
    · rw [spots_at _ 0 6 (r ++ [32], [42]) (by rw [List.getElem?_append_right (by omega), h6]; rfl)]
      rw [List.take_append, h6, List.take_of_length_le (by omega), happ]
      simp [spaced]
      omega
end Xs
end Go.Proofs.YtjnlgaeedcklaaaGreatDoor
