/-
  Runs under way and open breakers, as the program counts them and as the document does: plain; Contracts, by their trees; Contracts, by their trees; Contracts, by their trees; Contracts, by their trees; slices.Clone of events, by the kit's contract.
-/
import Derived.Test.YtfpfagmmdiohbaaGreatDoorWN
import Derived.Shelf.SlicesE.Clone
import Derived.Test.YtfpfagmmdiohbaaGreatDoorWI
set_option linter.unusedVariables false
set_option linter.unusedSimpArgs false
namespace Go.Proofs.YtfpfagmmdiohbaaGreatDoor.Vc
open As

/-- The flaws found so far. -/
def Fnd (k : Int) (f : List Ev → Ev → Bool) (l : List Ev) (q : Option Addr) (n i : Nat) (r : List Value) : Prop := r = flRow k (idxs (marks f l i) 0) ∧ n = (idxs (marks f l i) 0).length ∧ (q = none → r = [])
theorem Fnd.zero (k : Int) (f : List Ev → Ev → Bool) (l : List Ev) (q : Option Addr) : Fnd k f l q 0 0 [] := ⟨rfl, rfl, fun _ => rfl⟩
theorem Fnd.hit {k : Int} {f : List Ev → Ev → Bool} {l : List Ev} {q : Option Addr} {n i : Nat} {r : List Value} {x : Ev} (h : Fnd k f l q n i r) (hx : l[i]? = some x) (hl : l.length ≤ 1000000) (hf : f (l.take i) x = true) :
    (2 * ((n : Int) + 1) * 16 ≤ 281474976710656) ∧ ∀ (p4 : Addr) (r5 : List Value), r5 = r ++ [.int .i64 k, .int .i64 (i : Int)] → Int.toNat ((n : Int) + 1) ≤ 9223372036854775807 ∧ Fnd k f l ((some p4).map fun p => p.add 0) (Int.toNat ((n : Int) + 1)) (i + 1) r5 := by
  obtain ⟨hr, hn, _⟩ := h
  have hi := (List.getElem?_eq_some_iff.1 hx).1
  have hm := idx_marks_len f l i
  have e := marks_hit (f := f) hx hf
  refine ⟨by omega, fun p4 r5 hr5 => ⟨by omega, ?_, ?_, (fun h => by cases h)⟩⟩
  · rw [hr5, e, flRow_app, hr]
  · rw [e, List.length_append, ← hn]; simp
theorem Fnd.miss {k : Int} {f : List Ev → Ev → Bool} {l : List Ev} {q : Option Addr} {n i : Nat} {r : List Value} {x : Ev} (h : Fnd k f l q n i r) (hx : l[i]? = some x) (hf : f (l.take i) x = false) : Fnd k f l (q.map fun p => p.add 0) n (i + 1) r := by
  obtain ⟨hr, hn, hq⟩ := h
  have e := marks_miss (f := f) hx hf
  rw [map_add0]
  exact ⟨by rw [e]; exact hr, by rw [e]; exact hn, hq⟩

/-! ### Counters -/
theorem tally_bound (q : Ev → Bool) : ∀ l : List Ev, -(l.length : Int) ≤ tally q l ∧ tally q l ≤ (l.length : Int) := by
  have key : ∀ (n : Nat) (l : List Ev), l.length = n → -(l.length : Int) ≤ tally q l ∧ tally q l ≤ (l.length : Int) := by
    intro n
    induction n with
    | zero =>
      intro l h
      have : l = [] := List.length_eq_zero_iff.1 h
      subst this
      exact ⟨Int.le_refl _, Int.le_refl _⟩
    | succ n ih =>
      intro l h
      rcases List.eq_nil_or_concat l with h0 | ⟨p, x, h0⟩
      · rw [h0] at h; cases h
      · rw [List.concat_eq_append] at h0
        subst h0
        rw [List.length_append] at h
        have := ih p (by simpa using h)
        rw [tally_snoc, List.length_append]
        simp only [List.length_cons, List.length_nil]
        split
        · split <;> omega
        · split
          · split <;> omega
          · omega
  exact fun l => key _ l rfl
theorem tally_other {q : Ev → Bool} {p : List Ev} {x : Ev} (h : q x = false) : tally q (p ++ [x]) = tally q p := by
  rw [tally_snoc, h]; simp
/-- The row of the jobs' counters. -/
def CntAt (r : List Value) (L : List JobR) (p : List Ev) : Prop := r.length = L.length ∧ ∀ j : Nat, j < L.length → r[j]? = some (.int .i64 (tally (jq j) p))
theorem CntAt.skip {r : List Value} {L : List JobR} {p : List Ev} {x : Ev} (h : CntAt r L p) (hk : x.kind ≠ 1) (he : isEnd x = false) : CntAt r L (p ++ [x]) := by
  refine ⟨h.1, fun j hj => ?_⟩
  rw [tally_snoc, if_neg hk, he]
  exact h.2 j hj
theorem CntAt.step {r : List Value} {L : List JobR} {p : List Ev} {x : Ev} {j : Nat} {v : Int} (h : CntAt r L p) (hj : x.job = (j : Int)) (hjl : j < L.length) (hv : v = tally (jq j) (p ++ [x])) : CntAt (lsetAll r j [.int .i64 v]) L (p ++ [x]) := by
  refine ⟨by rw [lsetAll_length]; exact h.1, fun k hk => ?_⟩
  rw [lset_get _ _ _ _ (by rw [h.1]; simp only [List.length_cons, List.length_nil]; omega)]
  simp only [List.length_cons, List.length_nil]
  by_cases e : k = j
  · subst e
    rw [if_pos (by omega), Nat.sub_self, ← hv]; rfl
  · rw [if_neg (by omega), tally_other (by simp only [jq, decide_eq_false_iff_not]; omega)]
    exact h.2 k hk
/-- A launch beyond a cap: by the program's counters. -/
def capP (a : Int) (L : List JobR) (p : List Ev) (x : Ev) : Bool :=
  decide (x.kind = 1) && (decide (a < tally allq (p ++ [x])) || match L[x.job.toNat]? with | some J => decide (J.pol.cap < tally (jq x.job) (p ++ [x])) | none => false)
/-- The same by the document: the runs under way. -/
def capD (a : Int) (L : List JobR) (p : List Ev) (x : Ev) : Bool :=
  decide (x.kind = 1) && ((match L[x.job.toNat]? with | some J => decide (J.pol.cap < (((und (p ++ [x])).filter (jq x.job)).length : Int)) | none => false) || decide (a < ((und (p ++ [x])).length : Int)))
theorem take_snoc {l : List Ev} {i : Nat} {x : Ev} (h : l[i]? = some x) : l.take (i + 1) = l.take i ++ [x] := by
  obtain ⟨hx1, hx2⟩ := List.getElem?_eq_some_iff.1 h
  rw [← hx2, List.take_append_getElem hx1]
theorem cap_same {a : Int} {L : List JobR} {l : List Ev} {jobs : Int} (hev : ∀ i x, l[i]? = some x → evErr jobs (l.take i) x = 0) (n : Nat) : marks (capP a L) l n = marks (capD a L) l n := by
  apply marks_congr
  intro i x hx
  have hi := (List.getElem?_eq_some_iff.1 hx).1
  have ht := trace_of hev (i + 1) (by omega)
  rw [take_snoc hx] at ht
  have h1 := tally_und allq (fun _ _ _ => rfl) ht
  have h2 := tally_und (jq x.job) (fun a b e => by unfold jq; rw [e]) ht
  have h3 : (und (l.take i ++ [x])).filter allq = und (l.take i ++ [x]) := List.filter_eq_self.2 fun _ _ => rfl
  rw [h3] at h1
  unfold capP capD
  rw [h1, h2, Bool.or_comm]

/-! ### Breakers -/
def untl (j : Int) (p : List Ev) : Int := p.foldl (fun u x => if (x.kind = 7 ∨ x.kind = 8) ∧ x.job = j then x.when_ else u) 0
theorem untl_snoc (j : Int) (p : List Ev) (x : Ev) : untl j (p ++ [x]) = if (x.kind = 7 ∨ x.kind = 8) ∧ x.job = j then x.when_ else untl j p := by unfold untl; rw [List.foldl_append]; rfl
theorem untl_k (j : Int) : ∀ p : List Ev, (∀ x ∈ p, K.i64 x.when_) → K.i64 (untl j p) := by
  have key : ∀ (n : Nat) (p : List Ev), p.length = n → (∀ x ∈ p, K.i64 x.when_) → K.i64 (untl j p) := by
    intro n
    induction n with
    | zero =>
      intro p h _
      have : p = [] := List.length_eq_zero_iff.1 h
      subst this
      exact (k64 (by decide) (by decide) : K.i64 0)
    | succ n ih =>
      intro p h hk
      rcases List.eq_nil_or_concat p with h0 | ⟨q, x, h0⟩
      · rw [h0] at h; cases h
      · rw [List.concat_eq_append] at h0
        subst h0
        rw [List.length_append] at h
        rw [untl_snoc]
        split
        · exact hk x (by simp)
        · exact ih q (by simpa using h) (fun y hy => hk y (List.mem_append_left _ hy))
  exact fun p => key _ p rfl
def UntAt (r : List Value) (L : List JobR) (p : List Ev) : Prop := r.length = L.length ∧ ∀ j : Nat, j < L.length → r[j]? = some (.int .i64 (untl j p))
theorem UntAt.skip {r : List Value} {L : List JobR} {p : List Ev} {x : Ev} (h : UntAt r L p) (hk : ¬ (x.kind = 7 ∨ x.kind = 8)) : UntAt r L (p ++ [x]) := by
  refine ⟨h.1, fun j hj => ?_⟩
  rw [untl_snoc, if_neg (fun g => hk g.1)]
  exact h.2 j hj
theorem UntAt.step {r : List Value} {L : List JobR} {p : List Ev} {x : Ev} {j : Nat} (h : UntAt r L p) (hk : x.kind = 7 ∨ x.kind = 8) (hj : x.job = (j : Int)) (hjl : j < L.length) : UntAt (lsetAll r j [.int .i64 x.when_]) L (p ++ [x]) := by
  refine ⟨by rw [lsetAll_length]; exact h.1, fun k hk' => ?_⟩
  rw [lset_get _ _ _ _ (by rw [h.1]; simp only [List.length_cons, List.length_nil]; omega)]
  simp only [List.length_cons, List.length_nil]
  rw [untl_snoc]
  by_cases e : k = j
  · subst e
    rw [if_pos (by omega), if_pos ⟨hk, hj⟩, Nat.sub_self]; rfl
  · rw [if_neg (by omega), if_neg (fun g => by have := g.2; omega)]
    exact h.2 k hk'
/-- A launch while a breaker is open: by the program. -/
def brkP_ (p : List Ev) (x : Ev) : Bool := decide (x.kind = 1) && decide (x.at_ < untl x.job p)
def brkS (x : Ev) (b : Bool) (y : Ev) : Bool := if y.job = x.job then (if y.kind = 7 then !decide (y.when_ ≤ x.at_) else if y.kind = 8 then false else b) else b
def brkF (x : Ev) (p : List Ev) : Bool := p.foldl (brkS x) false
theorem brkF_snoc (x : Ev) (p : List Ev) (y : Ev) : brkF x (p ++ [y]) = brkS x (brkF x p) y := by unfold brkF; rw [List.foldl_append]; rfl
/-- The same by the document. -/
def brkD (p : List Ev) (x : Ev) : Bool := decide (x.kind = 1) && brkF x p
theorem evP_when {x : Ev} (h : evP x = 0) (hk : x.kind = 8) : x.when_ = 0 := by
  have h1 : inU (usesK x.kind).2.2.2.1 x.when_ (x.at_ + 1) 4611686018427387904 = true := by
    cases hj : inU (usesK x.kind).2.2.2.1 x.when_ (x.at_ + 1) 4611686018427387904 with
    | true => rfl
    | false =>
      exfalso
      unfold evP at h
      by_cases h1 : x.kind < 1 ∨ 9 ≤ x.kind
      · rw [if_pos h1] at h; cases h
      · rw [if_neg h1] at h
        dsimp only at h
        rw [hj] at h
        simp only [Bool.and_false, Bool.false_and, Bool.false_eq_true, if_false] at h
        by_cases h2 : ¬timeB x.at_ = true ∨ (usesK x.kind).2.1 = true ∧ ¬timeB x.due = true
        · rw [if_pos h2] at h; cases h
        · rw [if_neg h2] at h; cases h
  rw [hk] at h1
  have e : (usesK 8).2.2.2.1 = false := by decide
  rw [e] at h1
  simpa [inU] using h1
theorem brkF_eq {x : Ev} (hx : 0 ≤ x.at_) : ∀ p : List Ev, (∀ y ∈ p, y.kind = 8 → y.when_ = 0) → brkF x p = decide (x.at_ < untl x.job p) := by
  have key : ∀ (n : Nat) (p : List Ev), p.length = n → (∀ y ∈ p, y.kind = 8 → y.when_ = 0) → brkF x p = decide (x.at_ < untl x.job p) := by
    intro n
    induction n with
    | zero =>
      intro p h _
      have : p = [] := List.length_eq_zero_iff.1 h
      subst this
      show false = decide (x.at_ < 0)
      rw [Eq.comm, decide_eq_false_iff_not]; omega
    | succ n ih =>
      intro p h hk
      rcases List.eq_nil_or_concat p with h0 | ⟨q, y, h0⟩
      · rw [h0] at h; cases h
      · rw [List.concat_eq_append] at h0
        subst h0
        rw [List.length_append] at h
        have hi := ih q (by simpa using h) (fun z hz => hk z (List.mem_append_left _ hz))
        rw [brkF_snoc, untl_snoc, hi]
        unfold brkS
        by_cases hj : y.job = x.job
        · rw [if_pos hj]
          by_cases h7 : y.kind = 7
          · rw [if_pos h7, if_pos ⟨.inl h7, hj⟩, Bool.eq_iff_iff]
            simp
          · rw [if_neg h7]
            by_cases h8 : y.kind = 8
            · rw [if_pos h8, if_pos ⟨.inr h8, hj⟩, hk y (by simp) h8, Eq.comm, decide_eq_false_iff_not]
              omega
            · rw [if_neg h8, if_neg (by omega)]
        · rw [if_neg hj, if_neg (fun g => hj g.2)]
  exact fun p => key _ p rfl
theorem brk_same {l : List Ev} {jobs : Int} (hev : ∀ i x, l[i]? = some x → evErr jobs (l.take i) x = 0) (n : Nat) : marks brkP_ l n = marks brkD l n := by
  apply marks_congr
  intro i x hx
  have hat := evP_time (evErr_valid (hev i x hx)).1
  unfold brkP_ brkD
  rw [brkF_eq hat.1]
  intro y hy h8
  obtain ⟨k, hk⟩ := List.getElem?_of_mem (List.mem_of_mem_take hy)
  exact evP_when (evErr_valid (hev k y hk)).1 h8
/-! ### The row of marks with one that is under way -/
def mrowB (f : List Ev → Ev → Bool) (l : List Ev) (n i : Nat) (b : Bool) : List Value := boolRow (marks f l i ++ b :: List.replicate (n - (i + 1)) false)
theorem mrowB_len (f : List Ev → Ev → Bool) (l : List Ev) {n i : Nat} (h : i < n) (b : Bool) : (mrowB f l n i b).length = n := by
  unfold mrowB boolRow
  rw [List.length_map, List.length_append, marks_len, List.length_cons, List.length_replicate]; omega
theorem mrowB_in (f : List Ev → Ev → Bool) (l : List Ev) {n i : Nat} (h : i < n) : mrow f l n i = mrowB f l n i false := by
  unfold mrow mrowB
  rw [show n - i = (n - (i + 1)) + 1 by omega, List.replicate_succ]
theorem mrowB_out {f : List Ev → Ev → Bool} {l : List Ev} {n i : Nat} {x : Ev} (h : l[i]? = some x) : mrowB f l n i (f (l.take i) x) = mrow f l n (i + 1) := by
  unfold mrow mrowB
  rw [marks_succ f l h]; simp
theorem mrowB_set {f : List Ev → Ev → Bool} {l : List Ev} {n i : Nat} (hi : i < n) (b b' : Bool) : lsetAll (mrowB f l n i b) i [.bool b'] = mrowB f l n i b' := by
  have hl := mrowB_len f l hi b
  apply List.ext_getElem?
  intro k
  rw [lset_get _ _ _ _ (by rw [hl]; simp only [List.length_cons, List.length_nil]; omega)]
  simp only [List.length_cons, List.length_nil]
  unfold mrowB boolRow
  rw [List.getElem?_map, List.getElem?_map]
  by_cases e : k = i
  · subst e
    rw [if_pos (by omega), Nat.sub_self, List.getElem?_append_right (by rw [marks_len]; omega), marks_len, Nat.sub_self]
    rfl
  · rw [if_neg (by omega)]
    congr 1
    rcases Nat.lt_or_ge k i with g | g
    · rw [List.getElem?_append_left (by rw [marks_len]; omega), List.getElem?_append_left (by rw [marks_len]; omega)]
    · rw [List.getElem?_append_right (by rw [marks_len]; omega), List.getElem?_append_right (by rw [marks_len]; omega), marks_len]
      rw [show k - i = (k - i - 1) + 1 by omega, List.getElem?_cons_succ, List.getElem?_cons_succ]
end Go.Proofs.YtfpfagmmdiohbaaGreatDoor.Vc
set_option linter.unusedVariables false
set_option linter.unusedSimpArgs false
set_option linter.unusedVariables false
set_option linter.unusedSimpArgs false
namespace Go.Proofs.YtfpfagmmdiohbaaGreatDoor.Vc

open As

def aCap_pre (a b c d s t u : Int) (p : Option Addr) (n cc : Nat) (p1 : Option Addr) (n1 c1 : Nat) (m : Mem) : Prop := (Globs m glSp ∧ n1 ≤ 1000000) ∧ ∃ L l, JobsAt m p n L ∧ EvsAt m p1 n1 l
def aCap_post (a b c d s t u : Int) (p : Option Addr) (n cc : Nat) (p1 : Option Addr) (n1 c1 : Nat) (m : Mem) (q : Option Addr) (n2 c2 : Nat) (z : Int) : Prop := ∀ L l, JobsAt m p n L → EvsAt m p1 n1 l → z = auE a b c d t u L l ∧ RowM m q (flRow 2 (auI a b c d t u L l (capP a L))) ∧ n2 = (auI a b c d t u L l (capP a L)).length
def aCap : Sp := { args := [.i .i64, .i .i64, .i .i64, .i .i64, .i .u64, .i .i64, .i .i64, .sl, .sl], grp := [some 8, none], res := [.sl, .i .i64], rgrp := [none, none], fn := 21, spec := fun a0 a1 a2 a3 a4 a5 a6 a7 a8 a9 a10 a11 a12 => (aCap_pre a0 a1 a2 a3 a4 a5 a6 a7 a8 a9 a10 a11 a12, aCap_post a0 a1 a2 a3 a4 a5 a6 a7 a8 a9 a10 a11 a12) }
def aCap_VC : Prop := ∀ m : Mem, ∀ x0 : Int, IntKind.i64.min ≤ x0 → x0 ≤ IntKind.i64.max → ∀ x1 : Int, IntKind.i64.min ≤ x1 → x1 ≤ IntKind.i64.max → ∀ x2 : Int, IntKind.i64.min ≤ x2 → x2 ≤ IntKind.i64.max → ∀ x3 : Int, IntKind.i64.min ≤ x3 → x3 ≤ IntKind.i64.max → ∀ x4 : Int, IntKind.u64.min ≤ x4 → x4 ≤ IntKind.u64.max → ∀ x5 : Int, IntKind.i64.min ≤ x5 → x5 ≤ IntKind.i64.max → ∀ x6 : Int, IntKind.i64.min ≤ x6 → x6 ≤ IntKind.i64.max → ∀ (p0 : Option Addr) (n0 c0 : Nat), n0 ≤ 9223372036854775807 → c0 ≤ 9223372036854775807 → ∀ (p1 : Option Addr) (n1 c1 : Nat), n1 ≤ 9223372036854775807 → c1 ≤ 9223372036854775807 → aCap_pre x0 x1 x2 x3 x4 x5 x6 p0 n0 c0 p1 n1 c1 m →
 ((n0 ≤ 9223372036854775807 ∧ c0 ≤ 9223372036854775807) ∧ cChk_pre x0 x1 x2 x3 x4 x5 x6 (p0.map fun p => p.add 0) n0 c0 m ∧ ∀ m1 : Mem, MemSub m m1 → ∀ x11 : Int, IntKind.i64.min ≤ x11 → x11 ≤ IntKind.i64.max → cChk_post x0 x1 x2 x3 x4 x5 x6 (p0.map fun p => p.add 0) n0 c0 m1 x11 →
 ((x11 ≠ 0 →
 ((K.i64 x11) ∧ aCap_post x0 x1 x2 x3 x4 x5 x6 p0 n0 c0 p1 n1 c1 m1 none 0 0 x11)) ∧
 (x11 = 0 →
 ((n1 ≤ 9223372036854775807 ∧ c1 ≤ 9223372036854775807) ∧ tChk_pre (p1.map fun p => p.add 0) n1 c1 (n0 : Int) m1 ∧ ∀ m2 : Mem, MemSub m1 m2 → ∀ x12 : Int, IntKind.i64.min ≤ x12 → x12 ≤ IntKind.i64.max → ∀ x13 : Int, IntKind.i64.min ≤ x13 → x13 ≤ IntKind.i64.max → tChk_post (p1.map fun p => p.add 0) n1 c1 (n0 : Int) m2 x12 x13 →
 ((x13 ≠ 0 →
 ((K.i64 x13) ∧ aCap_post x0 x1 x2 x3 x4 x5 x6 p0 n0 c0 p1 n1 c1 m2 none 0 0 x13)) ∧
 (x13 = 0 →
 ((0 ≤ (n0 : Int) ∧ (n0 : Int) ≤ 1000000) ∧ ∀ (p2 : Addr) (r0 : List Value), r0 = repl ((n0 : Int)).toNat [(Value.int IntKind.i64 0)] → (∃ F3 : Option Addr → Nat → Nat → Int → Int → List Value → List Value → Prop × Nat, ((K.i64 0) ∧ (K.i64 0) ∧ (F3 none 0 0 0 0 [] r0).1) ∧
 ∀ (p3 : Option Addr) (n3 c3 : Nat), n3 ≤ 9223372036854775807 → c3 ≤ 9223372036854775807 → ∀ x16 : Int, IntKind.i64.min ≤ x16 → x16 ≤ IntKind.i64.max → ∀ x17 : Int, IntKind.i64.min ≤ x17 → x17 ≤ IntKind.i64.max → ∀ r1 : List Value, ∀ r2 : List Value, (F3 p3 n3 c3 x16 x17 r1 r2).1 →
 ((x16 < (n1 : Int) →
 (0 ≤ x16 ∧ (p1 ≠ none ∧ (HasI m2 p1 (0 + (x16 * 8)) 8 ∧ (∃ x18 : Int, cellI m2 p1 (0 + (x16 * 8)) = some (Value.int IntKind.i64 x18) ∧ (K.i64 x18) ∧ ((x18 = 1 →
 ((x17 + 1) ≤ 9223372036854775807 ∧ (∃ x19 : Int, cellI m2 p1 ((0 + (x16 * 8)) + 2) = some (Value.int IntKind.i64 x19) ∧ (K.i64 x19) ∧ (0 ≤ x19 ∧ (x19 < (n0 : Int) ∧ ((some p2) ≠ none ∧ ((0 ≤ (0 + x19) ∧ (0 + x19) + 1 ≤ (r2.length : Int)) ∧ (∃ x20 : Int, rowI r2 (0 + x19) = some (Value.int IntKind.i64 x20) ∧ (K.i64 x20) ∧ ((x20 + 1) ≤ 9223372036854775807 ∧ (0 ≤ x19 ∧ (x19 < (n0 : Int) ∧ ((some p2) ≠ none ∧ ((0 ≤ (0 + x19) ∧ (0 + x19) + 1 ≤ (r2.length : Int)) ∧ ∀ r3 : List Value, r3 = lsetAll r2 ((0 + x19)).toNat [(Value.int IntKind.i64 (x20 + 1))] → ((x0 < (x17 + 1) →
 ((2 * ((n3 : Int) + 1) * 16 ≤ 281474976710656) ∧ ∀ (p4 : Addr) (c4 : Nat) (r4 : List Value), r4 = r1 ++ [(Value.int IntKind.i64 2), (Value.int IntKind.i64 x16)] → (n3 : Int) + 1 ≤ (c4 : Int) → c4 ≤ 9223372036854775807 → ((x16 + 1) ≤ 9223372036854775807 ∧ (((Int.toNat ((n3 : Int) + 1)) ≤ 9223372036854775807 ∧ c4 ≤ 9223372036854775807) ∧ (IntKind.i64.min ≤ (x16 + 1) ∧ (x16 + 1) ≤ IntKind.i64.max) ∧ (IntKind.i64.min ≤ (x17 + 1) ∧ (x17 + 1) ≤ IntKind.i64.max) ∧ ((F3 ((some p4).map fun p => p.add 0) (Int.toNat ((n3 : Int) + 1)) c4 (x16 + 1) (x17 + 1) r4 r3).1 ∧ (F3 ((some p4).map fun p => p.add 0) (Int.toNat ((n3 : Int) + 1)) c4 (x16 + 1) (x17 + 1) r4 r3).2 < (F3 p3 n3 c3 x16 x17 r1 r2).2))))) ∧
 ((x17 + 1) ≤ x0 →
 (0 ≤ x19 ∧ (x19 < (n0 : Int) ∧ ((some p2) ≠ none ∧ ((0 ≤ (0 + x19) ∧ (0 + x19) + 1 ≤ (r3.length : Int)) ∧ (∃ x21 : Int, rowI r3 (0 + x19) = some (Value.int IntKind.i64 x21) ∧ (K.i64 x21) ∧ (0 ≤ x19 ∧ (x19 < (n0 : Int) ∧ (p0 ≠ none ∧ (HasI m2 p0 ((0 + (x19 * 30)) + 15) 1 ∧ (∃ x22 : Int, cellI m2 p0 ((0 + (x19 * 30)) + 15) = some (Value.int IntKind.i64 x22) ∧ (K.i64 x22) ∧ ((x22 < x21 →
 ((2 * ((n3 : Int) + 1) * 16 ≤ 281474976710656) ∧ ∀ (p4 : Addr) (c4 : Nat) (r4 : List Value), r4 = r1 ++ [(Value.int IntKind.i64 2), (Value.int IntKind.i64 x16)] → (n3 : Int) + 1 ≤ (c4 : Int) → c4 ≤ 9223372036854775807 → ((x16 + 1) ≤ 9223372036854775807 ∧ (((Int.toNat ((n3 : Int) + 1)) ≤ 9223372036854775807 ∧ c4 ≤ 9223372036854775807) ∧ (IntKind.i64.min ≤ (x16 + 1) ∧ (x16 + 1) ≤ IntKind.i64.max) ∧ (IntKind.i64.min ≤ (x17 + 1) ∧ (x17 + 1) ≤ IntKind.i64.max) ∧ ((F3 ((some p4).map fun p => p.add 0) (Int.toNat ((n3 : Int) + 1)) c4 (x16 + 1) (x17 + 1) r4 r3).1 ∧ (F3 ((some p4).map fun p => p.add 0) (Int.toNat ((n3 : Int) + 1)) c4 (x16 + 1) (x17 + 1) r4 r3).2 < (F3 p3 n3 c3 x16 x17 r1 r2).2))))) ∧
 (x21 ≤ x22 →
 ((x16 + 1) ≤ 9223372036854775807 ∧ ((n3 ≤ 9223372036854775807 ∧ c3 ≤ 9223372036854775807) ∧ (IntKind.i64.min ≤ (x16 + 1) ∧ (x16 + 1) ≤ IntKind.i64.max) ∧ (IntKind.i64.min ≤ (x17 + 1) ∧ (x17 + 1) ≤ IntKind.i64.max) ∧ ((F3 (p3.map fun p => p.add 0) n3 c3 (x16 + 1) (x17 + 1) r1 r3).1 ∧ (F3 (p3.map fun p => p.add 0) n3 c3 (x16 + 1) (x17 + 1) r1 r3).2 < (F3 p3 n3 c3 x16 x17 r1 r2).2)))))))))))))))))))))))))))))) ∧
 (x18 ≠ 1 →
 ((x18 = 2 →
 ((-9223372036854775808 : Int) ≤ (x17 - 1) ∧ (∃ x19 : Int, cellI m2 p1 ((0 + (x16 * 8)) + 2) = some (Value.int IntKind.i64 x19) ∧ (K.i64 x19) ∧ (0 ≤ x19 ∧ (x19 < (n0 : Int) ∧ ((some p2) ≠ none ∧ ((0 ≤ (0 + x19) ∧ (0 + x19) + 1 ≤ (r2.length : Int)) ∧ (∃ x20 : Int, rowI r2 (0 + x19) = some (Value.int IntKind.i64 x20) ∧ (K.i64 x20) ∧ ((-9223372036854775808 : Int) ≤ (x20 - 1) ∧ (0 ≤ x19 ∧ (x19 < (n0 : Int) ∧ ((some p2) ≠ none ∧ ((0 ≤ (0 + x19) ∧ (0 + x19) + 1 ≤ (r2.length : Int)) ∧ ∀ r3 : List Value, r3 = lsetAll r2 ((0 + x19)).toNat [(Value.int IntKind.i64 (x20 - 1))] → ((x16 + 1) ≤ 9223372036854775807 ∧ ((n3 ≤ 9223372036854775807 ∧ c3 ≤ 9223372036854775807) ∧ (IntKind.i64.min ≤ (x16 + 1) ∧ (x16 + 1) ≤ IntKind.i64.max) ∧ (IntKind.i64.min ≤ (x17 - 1) ∧ (x17 - 1) ≤ IntKind.i64.max) ∧ ((F3 (p3.map fun p => p.add 0) n3 c3 (x16 + 1) (x17 - 1) r1 r3).1 ∧ (F3 (p3.map fun p => p.add 0) n3 c3 (x16 + 1) (x17 - 1) r1 r3).2 < (F3 p3 n3 c3 x16 x17 r1 r2).2)))))))))))))))) ∧
 (x18 ≠ 2 →
 ((x18 = 3 →
 ((-9223372036854775808 : Int) ≤ (x17 - 1) ∧ (∃ x19 : Int, cellI m2 p1 ((0 + (x16 * 8)) + 2) = some (Value.int IntKind.i64 x19) ∧ (K.i64 x19) ∧ (0 ≤ x19 ∧ (x19 < (n0 : Int) ∧ ((some p2) ≠ none ∧ ((0 ≤ (0 + x19) ∧ (0 + x19) + 1 ≤ (r2.length : Int)) ∧ (∃ x20 : Int, rowI r2 (0 + x19) = some (Value.int IntKind.i64 x20) ∧ (K.i64 x20) ∧ ((-9223372036854775808 : Int) ≤ (x20 - 1) ∧ (0 ≤ x19 ∧ (x19 < (n0 : Int) ∧ ((some p2) ≠ none ∧ ((0 ≤ (0 + x19) ∧ (0 + x19) + 1 ≤ (r2.length : Int)) ∧ ∀ r3 : List Value, r3 = lsetAll r2 ((0 + x19)).toNat [(Value.int IntKind.i64 (x20 - 1))] → ((x16 + 1) ≤ 9223372036854775807 ∧ ((n3 ≤ 9223372036854775807 ∧ c3 ≤ 9223372036854775807) ∧ (IntKind.i64.min ≤ (x16 + 1) ∧ (x16 + 1) ≤ IntKind.i64.max) ∧ (IntKind.i64.min ≤ (x17 - 1) ∧ (x17 - 1) ≤ IntKind.i64.max) ∧ ((F3 (p3.map fun p => p.add 0) n3 c3 (x16 + 1) (x17 - 1) r1 r3).1 ∧ (F3 (p3.map fun p => p.add 0) n3 c3 (x16 + 1) (x17 - 1) r1 r3).2 < (F3 p3 n3 c3 x16 x17 r1 r2).2)))))))))))))))) ∧
 (x18 ≠ 3 →
 ((x16 + 1) ≤ 9223372036854775807 ∧ ((n3 ≤ 9223372036854775807 ∧ c3 ≤ 9223372036854775807) ∧ (IntKind.i64.min ≤ (x16 + 1) ∧ (x16 + 1) ≤ IntKind.i64.max) ∧ (K.i64 x17) ∧ ((F3 (p3.map fun p => p.add 0) n3 c3 (x16 + 1) x17 r1 r2).1 ∧ (F3 (p3.map fun p => p.add 0) n3 c3 (x16 + 1) x17 r1 r2).2 < (F3 p3 n3 c3 x16 x17 r1 r2).2)))))))))))))) ∧
 ((n1 : Int) ≤ x16 →
 (∀ m4 : Mem, MemSub m2 m4 → RowAt m4 p3 r1 → ((n3 ≤ 9223372036854775807 ∧ c3 ≤ 9223372036854775807) ∧ (K.i64 0) ∧ aCap_post x0 x1 x2 x3 x4 x5 x6 p0 n0 c0 p1 n1 c1 m4 (p3.map fun p => p.add 0) n3 c3 0))))))))))))
set_option maxHeartbeats 4000000 in
theorem aCap_vc : aCap_VC := by
  intro m x0 _ _ x1 _ _ x2 _ _ x3 _ _ x4 _ _ x5 k5 k5' x6 k6 k6' p0 n0 c0 hn0 hc0 p1 n1 c1 hn1 hc1 ⟨⟨hgl, hb⟩, L, l, hL, hl⟩
  have hLn := hL.1
  have hln := hl.1
  have ps : ∀ (m' : Mem) (q : Option Addr) (n2 c2 : Nat) (z : Int), MemSub m m' → z = auE x0 x1 x2 x3 x5 x6 L l → RowM m' q (flRow 2 (auI x0 x1 x2 x3 x5 x6 L l (capP x0 L))) → n2 = (auI x0 x1 x2 x3 x5 x6 L l (capP x0 L)).length → aCap_post x0 x1 x2 x3 x4 x5 x6 p0 n0 c0 p1 n1 c1 m' q n2 c2 z := by
    intro m' q n2 c2 z h e1 e2 e3 L' l' hL' hl'
    rw [← hL.uniq h hL', ← hl.uniq h hl']
    exact ⟨e1, e2, e3⟩
  have none_ : ∀ m' : Mem, RowM m' none [] := fun m' => ⟨(fun p h => by cases h), fun _ => rfl⟩
  refine ⟨⟨hn0, hc0⟩, ⟨hgl, L, by rw [map_add0]; exact hL⟩, fun m1 hm1 e ek1 ek2 he => ?_⟩
  rw [map_add0] at he
  have he : e = cfgE x0 x1 x2 x3 x5 x6 L := he L (hL.sub hm1)
  refine ⟨fun hne => ?_, fun h0 => ?_⟩
  · have ha : auE x0 x1 x2 x3 x5 x6 L l = e := by unfold auE; rw [← he, if_pos hne]
    have hi : auI x0 x1 x2 x3 x5 x6 L l (capP x0 L) = [] := by unfold auI; rw [ha, if_neg hne]
    exact ⟨⟨ek1, ek2⟩, ps m1 none 0 0 e hm1 ha.symm (by rw [hi]; exact none_ _) (by rw [hi]; rfl)⟩
  have hc : cfgE x0 x1 x2 x3 x5 x6 L = 0 := by rw [← he]; exact h0
  refine ⟨⟨hn1, hc1⟩, ?_⟩
  rw [map_add0]
  refine ⟨?_, fun m2 hm2 y yk1 yk2 g gk1 gk2 hg => ?_⟩
  · exact ⟨l, hl.sub hm1⟩
  have hg0 : (y, g) = trcE (n0 : Int) l := hg l (hl.sub hm1 |>.sub hm2)
  have ha : auE x0 x1 x2 x3 x5 x6 L l = g := by unfold auE; rw [if_neg (by rw [hc]; simp), hLn, ← hg0]
  refine ⟨fun hne => ?_, fun g0 => ?_⟩
  · have hi : auI x0 x1 x2 x3 x5 x6 L l (capP x0 L) = [] := by unfold auI; rw [ha, if_neg hne]
    exact ⟨⟨gk1, gk2⟩, ps m2 none 0 0 g (hm1.trans hm2) ha.symm (by rw [hi]; exact none_ _) (by rw [hi]; rfl)⟩
  rw [g0] at hg0 ha
  obtain ⟨hjl, hev⟩ := trcE_ok hg0
  have hi : auI x0 x1 x2 x3 x5 x6 L l (capP x0 L) = idxs (marks (capP x0 L) l l.length) 0 := by unfold auI; rw [ha, if_pos rfl]
  obtain ⟨h64, ⟨hT, hTau⟩, hjob⟩ := cfg_ok hc
  have hL2 := (hL.sub hm1).sub hm2
  have hl2 := (hl.sub hm1).sub hm2
  have kz : K.i64 0 := by constructor <;> decide
  have hb' : l.length ≤ 1000000 := by omega
  refine ⟨⟨by omega, by omega⟩, fun p2 r0 hr0 => ?_⟩
  have hr0l : r0.length = n0 := by rw [hr0, repl_length]; simp
  have hr0g : ∀ j : Nat, j < L.length → r0[j]? = some (.int .i64 0) := fun j hj => by
    rw [hr0, repl_get _ _ _ (by simp; omega)]
    have : j % 1 = 0 := by omega
    simp [this]
  refine ⟨fun q n c y v r1 r2 => ((∃ i : Nat, y = i ∧ i ≤ l.length ∧ v = tally allq (l.take i) ∧ Fnd 2 (capP x0 L) l q n i r1 ∧ CntAt r2 L (l.take i)), ((n1 : Int) - y).toNat), ⟨kz, kz, 0, rfl, by omega, rfl, Fnd.zero _ _ _ _, by omega, hr0g⟩, ?_⟩
  rintro p3 n3 c3 hn3 hc3 y3 yk5 yk6 v vk1 vk2 r1 r2 ⟨i, rfl, hil, rfl, hfn, hcnt⟩
  refine ⟨fun hlt => ?_, fun hge => ?_⟩
  rotate_left
  · intro m5 hm5 hrow
    have e : i = l.length := by omega
    subst e
    rw [map_add0]
    refine ⟨⟨hn3, hc3⟩, kz, ps m5 p3 n3 c3 0 ((hm1.trans hm2).trans hm5) ha.symm ?_ ?_⟩
    · rw [hi, ← hfn.1]; exact ⟨hrow, hfn.2.2⟩
    · rw [hi]; exact hfn.2.1
  obtain ⟨x, hx, hpn, hat, hhas⟩ := hl2.at_ (i := (i : Int)) (by omega) hlt
  rw [Int.toNat_natCast] at hx
  have hva := evErr_valid (hev i x hx)
  have htk := take_snoc hx
  have again : ∀ (q : Option Addr) (n' c' : Nat) (v : Int) (ra rb : List Value), n' ≤ 9223372036854775807 → c' ≤ 9223372036854775807 → v = tally allq (l.take (i + 1)) → Fnd 2 (capP x0 L) l q n' (i + 1) ra → CntAt rb L (l.take (i + 1)) → (((i : Int) + 1) ≤ 9223372036854775807 ∧ ((n' ≤ 9223372036854775807 ∧ c' ≤ 9223372036854775807) ∧ (IntKind.i64.min ≤ ((i : Int) + 1) ∧ ((i : Int) + 1) ≤ IntKind.i64.max) ∧ (IntKind.i64.min ≤ v ∧ v ≤ IntKind.i64.max) ∧ ((∃ j : Nat, (i : Int) + 1 = j ∧ j ≤ l.length ∧ v = tally allq (l.take j) ∧ Fnd 2 (capP x0 L) l q n' j ra ∧ CntAt rb L (l.take j)) ∧ ((n1 : Int) - ((i : Int) + 1)).toNat < ((n1 : Int) - (i : Int)).toNat))) := by
    intro q n' c' v ra rb h1 h2 h3 h4 h5
    have hbd := tally_bound allq (l.take (i + 1))
    have hlen : (l.take (i + 1)).length ≤ 1000000 := by rw [List.length_take]; omega
    exact ⟨by omega, ⟨h1, h2⟩, k64 (by omega) (by omega), k64 (by omega) (by omega), ⟨i + 1, by omega, by omega, h3, h4, h5⟩, by omega⟩
  have hbd := tally_bound allq (l.take i)
  have hlen : (l.take i).length ≤ 1000000 := by rw [List.length_take]; omega
  have hjob2 : x.kind ≠ 6 → ∃ j : Nat, x.job = (j : Int) ∧ j < L.length := fun h6 => by
    obtain ⟨j, hj⟩ := Int.eq_ofNat_of_zero_le (evP_job hva.1 h6)
    have := hva.2.1 h6
    exact ⟨j, hj, by omega⟩
  have hrl := hcnt.1
  have ends : x.kind = 2 ∨ x.kind = 3 → ((-9223372036854775808 : Int) ≤ (tally allq (l.take i) - 1) ∧ (∃ x19 : Int, cellI m2 p1 ((0 + ((i : Int) * 8)) + 2) = some (.int .i64 x19) ∧ (K.i64 x19) ∧ (0 ≤ x19 ∧ (x19 < (n0 : Int) ∧ ((some p2) ≠ none ∧ ((0 ≤ (0 + x19) ∧ (0 + x19) + 1 ≤ (r2.length : Int)) ∧ (∃ x20 : Int, rowI r2 (0 + x19) = some (.int .i64 x20) ∧ (K.i64 x20) ∧ ((-9223372036854775808 : Int) ≤ (x20 - 1) ∧ (0 ≤ x19 ∧ (x19 < (n0 : Int) ∧ ((some p2) ≠ none ∧ ((0 ≤ (0 + x19) ∧ (0 + x19) + 1 ≤ (r2.length : Int)) ∧ ∀ r3 : List Value, r3 = lsetAll r2 ((0 + x19)).toNat [(.int .i64 (x20 - 1))] → CntAt r3 L (l.take (i + 1)) ∧ tally allq (l.take i) - 1 = tally allq (l.take (i + 1)))))))))))))) := by
    intro hk
    have he : isEnd x = true := by unfold isEnd; rcases hk with h | h <;> simp [h]
    obtain ⟨j, hj, hjl2⟩ := hjob2 (by omega)
    have hbj := tally_bound (jq j) (l.take i)
    have hq : jq j x = true := by simp [jq, hj]
    have i0 : rowI r2 (0 + x.job) = some (.int .i64 (tally (jq j) (l.take i))) := rowI_to (rowI_at (hcnt.2 j hjl2) rfl) (by omega)
    refine ⟨by omega, x.job, hat.2.2.1.1, hat.2.2.1.2, by omega, by omega, by simp, ⟨by omega, by omega⟩, _, i0, k64 (by omega) (by omega), by omega, by omega, by omega, by simp, ⟨by omega, by omega⟩, fun r3 hr3 => ⟨?_, ?_⟩⟩
    · rw [htk, hr3, show (0 + x.job).toNat = j by omega]
      refine hcnt.step hj hjl2 ?_
      rw [tally_snoc, if_neg (by omega), if_pos he, if_pos hq]
    · rw [htk, tally_snoc, if_neg (by omega), if_pos he]; rfl
  refine ⟨by omega, hpn, hhas, x.kind, hat.1.1, hat.1.2, fun hk => ?_, fun hk => ⟨fun hk2 => ?_, fun hk2 => ⟨fun hk3 => ?_, fun hk3 => ?_⟩⟩⟩
  · obtain ⟨j, hj, hjl2⟩ := hjob2 (by omega)
    have hJ : L[j]? = some L[j] := List.getElem?_eq_getElem hjl2
    generalize L[j] = J at hJ
    obtain ⟨J2, hJ2, hjat⟩ := hL2.at_ (i := x.job) (by omega) (by omega)
    have : x.job.toNat = j := by omega
    rw [this, hJ] at hJ2; cases hJ2
    obtain ⟨⟨q1, q2⟩, _, _, hp⟩ := hjat
    have hh : HasI m2 p0 ((0 + (x.job * 30)) + 15) 1 := hasI_part q2 15 1 (by omega)
    have hbj := tally_bound (jq j) (l.take i)
    have hq : jq j x = true := by simp [jq, hj]
    have i0 : rowI r2 (0 + x.job) = some (.int .i64 (tally (jq j) (l.take i))) := rowI_to (rowI_at (hcnt.2 j hjl2) rfl) (by omega)
    have ea : tally allq (l.take i) + 1 = tally allq (l.take (i + 1)) := by rw [htk, tally_snoc, if_pos hk]; rfl
    have eo : tally (jq j) (l.take i) + 1 = tally (jq j) (l.take i ++ [x]) := by rw [tally_snoc, if_pos hk, if_pos hq]
    have hrate : capP x0 L (l.take i) x = (decide (x0 < tally allq (l.take i) + 1) || decide (J.pol.cap < tally (jq j) (l.take i) + 1)) := by
      unfold capP
      rw [hj, Int.toNat_natCast, hJ]
      simp only [hk, decide_true, Bool.true_and]
      rw [ea, eo, htk]
    refine ⟨by omega, x.job, hat.2.2.1.1, hat.2.2.1.2, by omega, by omega, by simp, ⟨by omega, by omega⟩, _, i0, k64 (by omega) (by omega), by omega, by omega, by omega, by simp, ⟨by omega, by omega⟩, fun r3 hr3 => ?_⟩
    have hst : CntAt r3 L (l.take (i + 1)) := by
      rw [htk, hr3, show (0 + x.job).toNat = j by omega]
      exact hcnt.step hj hjl2 eo
    have hit := fun hf => Fnd.hit hfn hx hb' (f := capP x0 L) hf
    refine ⟨fun hA => ?_, fun hA => ?_⟩
    · obtain ⟨g1, g2⟩ := hit (by rw [hrate]; simp [hA])
      exact ⟨g1, fun p4 c4 r4 hr4 h1 h2 => again _ _ _ _ _ _ (g2 p4 r4 hr4).1 h2 ea (g2 p4 r4 hr4).2 hst⟩
    · have i1 : rowI r3 (0 + x.job) = some (.int .i64 (tally (jq j) (l.take (i + 1)))) := rowI_to (rowI_at (hst.2 j hjl2) rfl) (by omega)
      rw [htk, ← eo] at i1
      have hrl3 := hst.1
      refine ⟨by omega, by omega, by simp, ⟨by omega, by omega⟩, _, i1, k64 (by omega) (by omega), by omega, by omega, q1, hh, _, hp.1.1, hp.1.2, fun hB => ?_, fun hB => ?_⟩
      · obtain ⟨g1, g2⟩ := hit (by rw [hrate]; simp [hB])
        exact ⟨g1, fun p4 c4 r4 hr4 h1 h2 => again _ _ _ _ _ _ (g2 p4 r4 hr4).1 h2 ea (g2 p4 r4 hr4).2 hst⟩
      · exact again _ _ _ _ _ _ hn3 hc3 ea (hfn.miss hx (by rw [hrate]; simp; omega)) hst
  · obtain ⟨g1, z, g2, g3, g4, g5, g6, g7, w, g8, g9, g10, g11, g12, g13, g14, g15⟩ := ends (.inl hk2)
    exact ⟨g1, z, g2, g3, g4, g5, g6, g7, w, g8, g9, g10, g11, g12, g13, g14, fun r3 hr3 => again _ _ _ _ _ _ hn3 hc3 (g15 r3 hr3).2 (hfn.miss hx (by simp [capP, hk])) (g15 r3 hr3).1⟩
  · obtain ⟨g1, z, g2, g3, g4, g5, g6, g7, w, g8, g9, g10, g11, g12, g13, g14, g15⟩ := ends (.inr hk3)
    exact ⟨g1, z, g2, g3, g4, g5, g6, g7, w, g8, g9, g10, g11, g12, g13, g14, fun r3 hr3 => again _ _ _ _ _ _ hn3 hc3 (g15 r3 hr3).2 (hfn.miss hx (by simp [capP, hk])) (g15 r3 hr3).1⟩
  · have he : isEnd x = false := by unfold isEnd; simp [hk2, hk3]
    refine again _ _ _ _ _ _ hn3 hc3 ?_ (hfn.miss hx (by simp [capP, hk])) (by rw [htk]; exact hcnt.skip hk he)
    rw [htk, tally_snoc, if_neg hk, he]; rfl
theorem aCap_pg : ∀ m, forallF aCap.args aCap.spec fun r => r.1 m → GlobsAt m [] := fun m a b c d s t u p n cc p1 n1 c1 h => trivial
theorem aCap_ok : SpOk Tryz.prog aCap :=
  con_okZ [] [] [] rfl (sps_of [cChk, tChk] ⟨cChk_ok, ⟨tChk_ok, trivial⟩⟩ rfl) (tab_ok _ [⟨(29, 3), [(4, 0, .i .i64)], [], [(7, 39)], [2]⟩]) 1000 aCap _ rfl rfl aCap_pg (Eq.mp (show aCap_VC = _ by kernel_rfl) aCap_vc)

end Go.Proofs.YtfpfagmmdiohbaaGreatDoor.Vc
set_option linter.unusedVariables false
set_option linter.unusedSimpArgs false
set_option linter.unusedVariables false
set_option linter.unusedSimpArgs false
namespace Go.Proofs.YtfpfagmmdiohbaaGreatDoor.Vc

open As

def aBrk_pre (a b c d s t u : Int) (p : Option Addr) (n cc : Nat) (p1 : Option Addr) (n1 c1 : Nat) (m : Mem) : Prop := (Globs m glSp ∧ n1 ≤ 1000000) ∧ ∃ L l, JobsAt m p n L ∧ EvsAt m p1 n1 l
def aBrk_post (a b c d s t u : Int) (p : Option Addr) (n cc : Nat) (p1 : Option Addr) (n1 c1 : Nat) (m : Mem) (q : Option Addr) (n2 c2 : Nat) (z : Int) : Prop := ∀ L l, JobsAt m p n L → EvsAt m p1 n1 l → z = auE a b c d t u L l ∧ RowM m q (flRow 4 (auI a b c d t u L l brkP_)) ∧ n2 = (auI a b c d t u L l brkP_).length
def aBrk : Sp := { args := [.i .i64, .i .i64, .i .i64, .i .i64, .i .u64, .i .i64, .i .i64, .sl, .sl], grp := [some 8, none], res := [.sl, .i .i64], rgrp := [none, none], fn := 19, spec := fun a0 a1 a2 a3 a4 a5 a6 a7 a8 a9 a10 a11 a12 => (aBrk_pre a0 a1 a2 a3 a4 a5 a6 a7 a8 a9 a10 a11 a12, aBrk_post a0 a1 a2 a3 a4 a5 a6 a7 a8 a9 a10 a11 a12) }
def aBrk_VC : Prop := ∀ m : Mem, ∀ x0 : Int, IntKind.i64.min ≤ x0 → x0 ≤ IntKind.i64.max → ∀ x1 : Int, IntKind.i64.min ≤ x1 → x1 ≤ IntKind.i64.max → ∀ x2 : Int, IntKind.i64.min ≤ x2 → x2 ≤ IntKind.i64.max → ∀ x3 : Int, IntKind.i64.min ≤ x3 → x3 ≤ IntKind.i64.max → ∀ x4 : Int, IntKind.u64.min ≤ x4 → x4 ≤ IntKind.u64.max → ∀ x5 : Int, IntKind.i64.min ≤ x5 → x5 ≤ IntKind.i64.max → ∀ x6 : Int, IntKind.i64.min ≤ x6 → x6 ≤ IntKind.i64.max → ∀ (p0 : Option Addr) (n0 c0 : Nat), n0 ≤ 9223372036854775807 → c0 ≤ 9223372036854775807 → ∀ (p1 : Option Addr) (n1 c1 : Nat), n1 ≤ 9223372036854775807 → c1 ≤ 9223372036854775807 → aBrk_pre x0 x1 x2 x3 x4 x5 x6 p0 n0 c0 p1 n1 c1 m →
 ((n0 ≤ 9223372036854775807 ∧ c0 ≤ 9223372036854775807) ∧ cChk_pre x0 x1 x2 x3 x4 x5 x6 (p0.map fun p => p.add 0) n0 c0 m ∧ ∀ m1 : Mem, MemSub m m1 → ∀ x11 : Int, IntKind.i64.min ≤ x11 → x11 ≤ IntKind.i64.max → cChk_post x0 x1 x2 x3 x4 x5 x6 (p0.map fun p => p.add 0) n0 c0 m1 x11 →
 ((x11 ≠ 0 →
 ((K.i64 x11) ∧ aBrk_post x0 x1 x2 x3 x4 x5 x6 p0 n0 c0 p1 n1 c1 m1 none 0 0 x11)) ∧
 (x11 = 0 →
 ((n1 ≤ 9223372036854775807 ∧ c1 ≤ 9223372036854775807) ∧ tChk_pre (p1.map fun p => p.add 0) n1 c1 (n0 : Int) m1 ∧ ∀ m2 : Mem, MemSub m1 m2 → ∀ x12 : Int, IntKind.i64.min ≤ x12 → x12 ≤ IntKind.i64.max → ∀ x13 : Int, IntKind.i64.min ≤ x13 → x13 ≤ IntKind.i64.max → tChk_post (p1.map fun p => p.add 0) n1 c1 (n0 : Int) m2 x12 x13 →
 ((x13 ≠ 0 →
 ((K.i64 x13) ∧ aBrk_post x0 x1 x2 x3 x4 x5 x6 p0 n0 c0 p1 n1 c1 m2 none 0 0 x13)) ∧
 (x13 = 0 →
 ((0 ≤ (n0 : Int) ∧ (n0 : Int) ≤ 1000000) ∧ ∀ (p2 : Addr) (r0 : List Value), r0 = repl ((n0 : Int)).toNat [(Value.int IntKind.i64 0)] → (∃ F3 : Option Addr → Nat → Nat → Int → List Value → List Value → Prop × Nat, ((K.i64 0) ∧ (F3 none 0 0 0 [] r0).1) ∧
 ∀ (p3 : Option Addr) (n3 c3 : Nat), n3 ≤ 9223372036854775807 → c3 ≤ 9223372036854775807 → ∀ x16 : Int, IntKind.i64.min ≤ x16 → x16 ≤ IntKind.i64.max → ∀ r1 : List Value, ∀ r2 : List Value, (F3 p3 n3 c3 x16 r1 r2).1 →
 ((x16 < (n1 : Int) →
 (0 ≤ x16 ∧ (p1 ≠ none ∧ (HasI m2 p1 (0 + (x16 * 8)) 8 ∧ (∃ x17 : Int, cellI m2 p1 (0 + (x16 * 8)) = some (Value.int IntKind.i64 x17) ∧ (K.i64 x17) ∧ ((x17 = 7 →
 (∃ x18 : Int, cellI m2 p1 ((0 + (x16 * 8)) + 2) = some (Value.int IntKind.i64 x18) ∧ (K.i64 x18) ∧ (∃ x19 : Int, cellI m2 p1 ((0 + (x16 * 8)) + 7) = some (Value.int IntKind.i64 x19) ∧ (K.i64 x19) ∧ (0 ≤ x18 ∧ (x18 < (n0 : Int) ∧ ((some p2) ≠ none ∧ ((0 ≤ (0 + x18) ∧ (0 + x18) + 1 ≤ (r2.length : Int)) ∧ ∀ r3 : List Value, r3 = lsetAll r2 ((0 + x18)).toNat [(Value.int IntKind.i64 x19)] → ((x16 + 1) ≤ 9223372036854775807 ∧ ((n3 ≤ 9223372036854775807 ∧ c3 ≤ 9223372036854775807) ∧ (IntKind.i64.min ≤ (x16 + 1) ∧ (x16 + 1) ≤ IntKind.i64.max) ∧ ((F3 (p3.map fun p => p.add 0) n3 c3 (x16 + 1) r1 r3).1 ∧ (F3 (p3.map fun p => p.add 0) n3 c3 (x16 + 1) r1 r3).2 < (F3 p3 n3 c3 x16 r1 r2).2)))))))))) ∧
 (x17 ≠ 7 →
 ((x17 = 8 →
 (∃ x18 : Int, cellI m2 p1 ((0 + (x16 * 8)) + 2) = some (Value.int IntKind.i64 x18) ∧ (K.i64 x18) ∧ (∃ x19 : Int, cellI m2 p1 ((0 + (x16 * 8)) + 7) = some (Value.int IntKind.i64 x19) ∧ (K.i64 x19) ∧ (0 ≤ x18 ∧ (x18 < (n0 : Int) ∧ ((some p2) ≠ none ∧ ((0 ≤ (0 + x18) ∧ (0 + x18) + 1 ≤ (r2.length : Int)) ∧ ∀ r3 : List Value, r3 = lsetAll r2 ((0 + x18)).toNat [(Value.int IntKind.i64 x19)] → ((x16 + 1) ≤ 9223372036854775807 ∧ ((n3 ≤ 9223372036854775807 ∧ c3 ≤ 9223372036854775807) ∧ (IntKind.i64.min ≤ (x16 + 1) ∧ (x16 + 1) ≤ IntKind.i64.max) ∧ ((F3 (p3.map fun p => p.add 0) n3 c3 (x16 + 1) r1 r3).1 ∧ (F3 (p3.map fun p => p.add 0) n3 c3 (x16 + 1) r1 r3).2 < (F3 p3 n3 c3 x16 r1 r2).2)))))))))) ∧
 (x17 ≠ 8 →
 ((x17 = 1 →
 (∃ x18 : Int, cellI m2 p1 ((0 + (x16 * 8)) + 1) = some (Value.int IntKind.i64 x18) ∧ (K.i64 x18) ∧ (∃ x19 : Int, cellI m2 p1 ((0 + (x16 * 8)) + 2) = some (Value.int IntKind.i64 x19) ∧ (K.i64 x19) ∧ (0 ≤ x19 ∧ (x19 < (n0 : Int) ∧ ((some p2) ≠ none ∧ ((0 ≤ (0 + x19) ∧ (0 + x19) + 1 ≤ (r2.length : Int)) ∧ (∃ x20 : Int, rowI r2 (0 + x19) = some (Value.int IntKind.i64 x20) ∧ (K.i64 x20) ∧ ((x18 < x20 →
 ((2 * ((n3 : Int) + 1) * 16 ≤ 281474976710656) ∧ ∀ (p4 : Addr) (c4 : Nat) (r3 : List Value), r3 = r1 ++ [(Value.int IntKind.i64 4), (Value.int IntKind.i64 x16)] → (n3 : Int) + 1 ≤ (c4 : Int) → c4 ≤ 9223372036854775807 → ((x16 + 1) ≤ 9223372036854775807 ∧ (((Int.toNat ((n3 : Int) + 1)) ≤ 9223372036854775807 ∧ c4 ≤ 9223372036854775807) ∧ (IntKind.i64.min ≤ (x16 + 1) ∧ (x16 + 1) ≤ IntKind.i64.max) ∧ ((F3 ((some p4).map fun p => p.add 0) (Int.toNat ((n3 : Int) + 1)) c4 (x16 + 1) r3 r2).1 ∧ (F3 ((some p4).map fun p => p.add 0) (Int.toNat ((n3 : Int) + 1)) c4 (x16 + 1) r3 r2).2 < (F3 p3 n3 c3 x16 r1 r2).2))))) ∧
 (x20 ≤ x18 →
 ((x16 + 1) ≤ 9223372036854775807 ∧ ((n3 ≤ 9223372036854775807 ∧ c3 ≤ 9223372036854775807) ∧ (IntKind.i64.min ≤ (x16 + 1) ∧ (x16 + 1) ≤ IntKind.i64.max) ∧ ((F3 (p3.map fun p => p.add 0) n3 c3 (x16 + 1) r1 r2).1 ∧ (F3 (p3.map fun p => p.add 0) n3 c3 (x16 + 1) r1 r2).2 < (F3 p3 n3 c3 x16 r1 r2).2))))))))))))) ∧
 (x17 ≠ 1 →
 ((x16 + 1) ≤ 9223372036854775807 ∧ ((n3 ≤ 9223372036854775807 ∧ c3 ≤ 9223372036854775807) ∧ (IntKind.i64.min ≤ (x16 + 1) ∧ (x16 + 1) ≤ IntKind.i64.max) ∧ ((F3 (p3.map fun p => p.add 0) n3 c3 (x16 + 1) r1 r2).1 ∧ (F3 (p3.map fun p => p.add 0) n3 c3 (x16 + 1) r1 r2).2 < (F3 p3 n3 c3 x16 r1 r2).2)))))))))))))) ∧
 ((n1 : Int) ≤ x16 →
 (∀ m4 : Mem, MemSub m2 m4 → RowAt m4 p3 r1 → ((n3 ≤ 9223372036854775807 ∧ c3 ≤ 9223372036854775807) ∧ (K.i64 0) ∧ aBrk_post x0 x1 x2 x3 x4 x5 x6 p0 n0 c0 p1 n1 c1 m4 (p3.map fun p => p.add 0) n3 c3 0))))))))))))
set_option maxHeartbeats 4000000 in
theorem aBrk_vc : aBrk_VC := by
  intro m x0 _ _ x1 _ _ x2 _ _ x3 _ _ x4 _ _ x5 k5 k5' x6 k6 k6' p0 n0 c0 hn0 hc0 p1 n1 c1 hn1 hc1 ⟨⟨hgl, hb⟩, L, l, hL, hl⟩
  have hLn := hL.1
  have hln := hl.1
  have ps : ∀ (m' : Mem) (q : Option Addr) (n2 c2 : Nat) (z : Int), MemSub m m' → z = auE x0 x1 x2 x3 x5 x6 L l → RowM m' q (flRow 4 (auI x0 x1 x2 x3 x5 x6 L l brkP_)) → n2 = (auI x0 x1 x2 x3 x5 x6 L l brkP_).length → aBrk_post x0 x1 x2 x3 x4 x5 x6 p0 n0 c0 p1 n1 c1 m' q n2 c2 z := by
    intro m' q n2 c2 z h e1 e2 e3 L' l' hL' hl'
    rw [← hL.uniq h hL', ← hl.uniq h hl']
    exact ⟨e1, e2, e3⟩
  have none_ : ∀ m' : Mem, RowM m' none [] := fun m' => ⟨(fun p h => by cases h), fun _ => rfl⟩
  refine ⟨⟨hn0, hc0⟩, ⟨hgl, L, by rw [map_add0]; exact hL⟩, fun m1 hm1 e ek1 ek2 he => ?_⟩
  rw [map_add0] at he
  have he : e = cfgE x0 x1 x2 x3 x5 x6 L := he L (hL.sub hm1)
  refine ⟨fun hne => ?_, fun h0 => ?_⟩
  · have ha : auE x0 x1 x2 x3 x5 x6 L l = e := by unfold auE; rw [← he, if_pos hne]
    have hi : auI x0 x1 x2 x3 x5 x6 L l brkP_ = [] := by unfold auI; rw [ha, if_neg hne]
    exact ⟨⟨ek1, ek2⟩, ps m1 none 0 0 e hm1 ha.symm (by rw [hi]; exact none_ _) (by rw [hi]; rfl)⟩
  have hc : cfgE x0 x1 x2 x3 x5 x6 L = 0 := by rw [← he]; exact h0
  refine ⟨⟨hn1, hc1⟩, ?_⟩
  rw [map_add0]
  refine ⟨?_, fun m2 hm2 y yk1 yk2 g gk1 gk2 hg => ?_⟩
  · exact ⟨l, hl.sub hm1⟩
  have hg0 : (y, g) = trcE (n0 : Int) l := hg l (hl.sub hm1 |>.sub hm2)
  have ha : auE x0 x1 x2 x3 x5 x6 L l = g := by unfold auE; rw [if_neg (by rw [hc]; simp), hLn, ← hg0]
  refine ⟨fun hne => ?_, fun g0 => ?_⟩
  · have hi : auI x0 x1 x2 x3 x5 x6 L l brkP_ = [] := by unfold auI; rw [ha, if_neg hne]
    exact ⟨⟨gk1, gk2⟩, ps m2 none 0 0 g (hm1.trans hm2) ha.symm (by rw [hi]; exact none_ _) (by rw [hi]; rfl)⟩
  rw [g0] at hg0 ha
  obtain ⟨hjl, hev⟩ := trcE_ok hg0
  have hi : auI x0 x1 x2 x3 x5 x6 L l brkP_ = idxs (marks brkP_ l l.length) 0 := by unfold auI; rw [ha, if_pos rfl]
  obtain ⟨h64, ⟨hT, hTau⟩, hjob⟩ := cfg_ok hc
  have hL2 := (hL.sub hm1).sub hm2
  have hl2 := (hl.sub hm1).sub hm2
  have kz : K.i64 0 := by constructor <;> decide
  have hb' : l.length ≤ 1000000 := by omega
  refine ⟨⟨by omega, by omega⟩, fun p2 r0 hr0 => ?_⟩
  have hr0l : r0.length = n0 := by rw [hr0, repl_length]; simp
  have hr0g : ∀ j : Nat, j < L.length → r0[j]? = some (.int .i64 0) := fun j hj => by
    rw [hr0, repl_get _ _ _ (by simp; omega)]
    have : j % 1 = 0 := by omega
    simp [this]
  refine ⟨fun q n c y r1 r2 => ((∃ i : Nat, y = i ∧ i ≤ l.length ∧ Fnd 4 brkP_ l q n i r1 ∧ UntAt r2 L (l.take i)), ((n1 : Int) - y).toNat), ⟨kz, 0, rfl, by omega, Fnd.zero _ _ _ _, by omega, hr0g⟩, ?_⟩
  rintro p3 n3 c3 hn3 hc3 y3 yk5 yk6 r1 r2 ⟨i, rfl, hil, hfn, hcnt⟩
  refine ⟨fun hlt => ?_, fun hge => ?_⟩
  rotate_left
  · intro m5 hm5 hrow
    have e : i = l.length := by omega
    subst e
    rw [map_add0]
    refine ⟨⟨hn3, hc3⟩, kz, ps m5 p3 n3 c3 0 ((hm1.trans hm2).trans hm5) ha.symm ?_ ?_⟩
    · rw [hi, ← hfn.1]; exact ⟨hrow, hfn.2.2⟩
    · rw [hi]; exact hfn.2.1
  obtain ⟨x, hx, hpn, hat, hhas⟩ := hl2.at_ (i := (i : Int)) (by omega) hlt
  rw [Int.toNat_natCast] at hx
  have hva := evErr_valid (hev i x hx)
  have htk := take_snoc hx
  have again : ∀ (q : Option Addr) (n' c' : Nat) (ra rb : List Value), n' ≤ 9223372036854775807 → c' ≤ 9223372036854775807 → Fnd 4 brkP_ l q n' (i + 1) ra → UntAt rb L (l.take (i + 1)) → (((i : Int) + 1) ≤ 9223372036854775807 ∧ ((n' ≤ 9223372036854775807 ∧ c' ≤ 9223372036854775807) ∧ (IntKind.i64.min ≤ ((i : Int) + 1) ∧ ((i : Int) + 1) ≤ IntKind.i64.max) ∧ ((∃ j : Nat, (i : Int) + 1 = j ∧ j ≤ l.length ∧ Fnd 4 brkP_ l q n' j ra ∧ UntAt rb L (l.take j)) ∧ ((n1 : Int) - ((i : Int) + 1)).toNat < ((n1 : Int) - (i : Int)).toNat))) := by
    intro q n' c' ra rb h1 h2 h4 h5
    exact ⟨by omega, ⟨h1, h2⟩, k64 (by omega) (by omega), ⟨i + 1, by omega, by omega, h4, h5⟩, by omega⟩
  have hjob2 : x.kind ≠ 6 → ∃ j : Nat, x.job = (j : Int) ∧ j < L.length := fun h6 => by
    obtain ⟨j, hj⟩ := Int.eq_ofNat_of_zero_le (evP_job hva.1 h6)
    have := hva.2.1 h6
    exact ⟨j, hj, by omega⟩
  have hrl := hcnt.1
  have opens : x.kind = 7 ∨ x.kind = 8 → (∃ x18 : Int, cellI m2 p1 ((0 + ((i : Int) * 8)) + 2) = some (.int .i64 x18) ∧ (K.i64 x18) ∧ (∃ x19 : Int, cellI m2 p1 ((0 + ((i : Int) * 8)) + 7) = some (.int .i64 x19) ∧ (K.i64 x19) ∧ (0 ≤ x18 ∧ (x18 < (n0 : Int) ∧ ((some p2) ≠ none ∧ ((0 ≤ (0 + x18) ∧ (0 + x18) + 1 ≤ (r2.length : Int)) ∧ ∀ r3 : List Value, r3 = lsetAll r2 ((0 + x18)).toNat [.int .i64 x19] → UntAt r3 L (l.take (i + 1)))))))) := by
    intro hk
    obtain ⟨j, hj, hjl2⟩ := hjob2 (by omega)
    refine ⟨x.job, hat.2.2.1.1, hat.2.2.1.2, x.when_, hat.2.2.2.2.2.2.2.1, hat.2.2.2.2.2.2.2.2, by omega, by omega, by simp, ⟨by omega, by omega⟩, fun r3 hr3 => ?_⟩
    rw [htk, hr3, show (0 + x.job).toNat = j by omega]
    exact hcnt.step hk hj hjl2
  refine ⟨by omega, hpn, hhas, x.kind, hat.1.1, hat.1.2, fun hk => ?_, fun hk => ⟨fun hk2 => ?_, fun hk2 => ⟨fun hk3 => ?_, fun hk3 => ?_⟩⟩⟩
  · obtain ⟨z, g1, g2, w, g3, g4, g5, g6, g7, g8, g9⟩ := opens (.inl hk)
    exact ⟨z, g1, g2, w, g3, g4, g5, g6, g7, g8, fun r3 hr3 => again _ _ _ _ _ hn3 hc3 (hfn.miss hx (by simp [brkP_, hk])) (g9 r3 hr3)⟩
  · obtain ⟨z, g1, g2, w, g3, g4, g5, g6, g7, g8, g9⟩ := opens (.inr hk2)
    exact ⟨z, g1, g2, w, g3, g4, g5, g6, g7, g8, fun r3 hr3 => again _ _ _ _ _ hn3 hc3 (hfn.miss hx (by simp [brkP_, hk2])) (g9 r3 hr3)⟩
  · obtain ⟨j, hj, hjl2⟩ := hjob2 (by omega)
    have i0 : rowI r2 (0 + x.job) = some (.int .i64 (untl j (l.take i))) := rowI_to (rowI_at (hcnt.2 j hjl2) rfl) (by omega)
    have hku : K.i64 (untl j (l.take i)) := untl_k j _ fun y hy => (hl.ok y (List.mem_of_mem_take hy)).2.2.2.2.2.2.2
    have hrate : brkP_ (l.take i) x = decide (x.at_ < untl j (l.take i)) := by
      unfold brkP_
      rw [hj]; simp [hk3]
    have hst : UntAt r2 L (l.take (i + 1)) := by rw [htk]; exact hcnt.skip (by omega)
    refine ⟨x.at_, hat.2.1.1, hat.2.1.2, x.job, hat.2.2.1.1, hat.2.2.1.2, by omega, by omega, by simp, ⟨by omega, by omega⟩, _, i0, hku, fun hA => ?_, fun hA => ?_⟩
    · obtain ⟨g1, g2⟩ := Fnd.hit hfn hx hb' (f := brkP_) (by rw [hrate]; simp [hA])
      exact ⟨g1, fun p4 c4 r4 hr4 h1 h2 => again _ _ _ _ _ (g2 p4 r4 hr4).1 h2 (g2 p4 r4 hr4).2 hst⟩
    · exact again _ _ _ _ _ hn3 hc3 (hfn.miss hx (by rw [hrate]; simp; omega)) hst
  · exact again _ _ _ _ _ hn3 hc3 (hfn.miss hx (by simp [brkP_, hk3])) (by rw [htk]; exact hcnt.skip (by omega))
theorem aBrk_pg : ∀ m, forallF aBrk.args aBrk.spec fun r => r.1 m → GlobsAt m [] := fun m a b c d s t u p n cc p1 n1 c1 h => trivial
theorem aBrk_ok : SpOk Tryz.prog aBrk :=
  con_okZ [] [] [] rfl (sps_of [cChk, tChk] ⟨cChk_ok, ⟨tChk_ok, trivial⟩⟩ rfl) (tab_ok _ [⟨(29, 3), [], [], [(7, 39)], [2]⟩]) 1000 aBrk _ rfl rfl aBrk_pg (Eq.mp (show aBrk_VC = _ by kernel_rfl) aBrk_vc)

end Go.Proofs.YtfpfagmmdiohbaaGreatDoor.Vc
set_option linter.unusedVariables false
set_option linter.unusedSimpArgs false
set_option linter.unusedVariables false
set_option linter.unusedSimpArgs false
namespace Go.Proofs.YtfpfagmmdiohbaaGreatDoor.Vc

open As

def rCap_pre (a b c d s t u : Int) (p : Option Addr) (n cc : Nat) (p1 : Option Addr) (n1 c1 : Nat) (m : Mem) : Prop := n1 ≤ 1000000 ∧ ∃ L l, JobsAt m p n L ∧ EvsAt m p1 n1 l
def rCap_post (a b c d s t u : Int) (p : Option Addr) (n cc : Nat) (p1 : Option Addr) (n1 c1 : Nat) (m : Mem) (q : Option Addr) (n2 c2 : Nat) (z : Int) : Prop := ∀ L l, JobsAt m p n L → EvsAt m p1 n1 l → z = auE a b c d t u L l ∧ RowM m q (flRow 2 (auI a b c d t u L l (capP a L))) ∧ n2 = (auI a b c d t u L l (capP a L)).length
def rCap : Sp := { args := [.i .i64, .i .i64, .i .i64, .i .i64, .i .u64, .i .i64, .i .i64, .sl, .sl], grp := [some 8, none], res := [.sl, .i .i64], rgrp := [none, none], fn := 22, spec := fun a0 a1 a2 a3 a4 a5 a6 a7 a8 a9 a10 a11 a12 => (rCap_pre a0 a1 a2 a3 a4 a5 a6 a7 a8 a9 a10 a11 a12, rCap_post a0 a1 a2 a3 a4 a5 a6 a7 a8 a9 a10 a11 a12) }
def rCap_VC : Prop := ∀ m : Mem, ∀ x0 : Int, IntKind.i64.min ≤ x0 → x0 ≤ IntKind.i64.max → ∀ x1 : Int, IntKind.i64.min ≤ x1 → x1 ≤ IntKind.i64.max → ∀ x2 : Int, IntKind.i64.min ≤ x2 → x2 ≤ IntKind.i64.max → ∀ x3 : Int, IntKind.i64.min ≤ x3 → x3 ≤ IntKind.i64.max → ∀ x4 : Int, IntKind.u64.min ≤ x4 → x4 ≤ IntKind.u64.max → ∀ x5 : Int, IntKind.i64.min ≤ x5 → x5 ≤ IntKind.i64.max → ∀ x6 : Int, IntKind.i64.min ≤ x6 → x6 ≤ IntKind.i64.max → ∀ (p0 : Option Addr) (n0 c0 : Nat), n0 ≤ 9223372036854775807 → c0 ≤ 9223372036854775807 → ∀ (p1 : Option Addr) (n1 c1 : Nat), n1 ≤ 9223372036854775807 → c1 ≤ 9223372036854775807 → rCap_pre x0 x1 x2 x3 x4 x5 x6 p0 n0 c0 p1 n1 c1 m →
 ((n0 ≤ 9223372036854775807 ∧ c0 ≤ 9223372036854775807) ∧ rcChk_pre x0 x1 x2 x3 x4 x5 x6 (p0.map fun p => p.add 0) n0 c0 m ∧ ∀ m1 : Mem, MemSub m m1 → ∀ x11 : Int, IntKind.i64.min ≤ x11 → x11 ≤ IntKind.i64.max → rcChk_post x0 x1 x2 x3 x4 x5 x6 (p0.map fun p => p.add 0) n0 c0 m1 x11 →
 ((x11 = 0 →
 ((n1 ≤ 9223372036854775807 ∧ c1 ≤ 9223372036854775807) ∧ rtChk_pre (p1.map fun p => p.add 0) n1 c1 (n0 : Int) m1 ∧ ∀ m2 : Mem, MemSub m1 m2 → ∀ x12 : Int, IntKind.i64.min ≤ x12 → x12 ≤ IntKind.i64.max → ∀ x13 : Int, IntKind.i64.min ≤ x13 → x13 ≤ IntKind.i64.max → rtChk_post (p1.map fun p => p.add 0) n1 c1 (n0 : Int) m2 x12 x13 →
 ((x13 ≠ 0 →
 ((K.i64 x13) ∧ rCap_post x0 x1 x2 x3 x4 x5 x6 p0 n0 c0 p1 n1 c1 m2 none 0 0 x13)) ∧
 (x13 = 0 →
 ((0 ≤ (n1 : Int) ∧ (n1 : Int) ≤ 1000000) ∧ ∀ (p2 : Addr) (r0 : List Value), r0 = repl ((n1 : Int)).toNat [(Value.bool false)] → (∃ F3 : Int → List Value → Prop × Nat, ((K.i64 0) ∧ (F3 0 r0).1) ∧
 ∀ x14 : Int, IntKind.i64.min ≤ x14 → x14 ≤ IntKind.i64.max → ∀ r1 : List Value, (F3 x14 r1).1 →
 ((x14 < (n1 : Int) →
 (0 ≤ x14 ∧ (p1 ≠ none ∧ (HasI m2 p1 (0 + (x14 * 8)) 1 ∧ (∃ x15 : Int, cellI m2 p1 (0 + (x14 * 8)) = some (Value.int IntKind.i64 x15) ∧ (K.i64 x15) ∧ ((x15 ≠ 1 →
 ((x14 + 1) ≤ 9223372036854775807 ∧ ((IntKind.i64.min ≤ (x14 + 1) ∧ (x14 + 1) ≤ IntKind.i64.max) ∧ ((F3 (x14 + 1) r1).1 ∧ (F3 (x14 + 1) r1).2 < (F3 x14 r1).2)))) ∧
 (x15 = 1 →
 ((x14 + 1) ≤ 9223372036854775807 ∧ ((x14 + 1) ≤ 9223372036854775807 ∧ ((n1 ≤ 9223372036854775807 ∧ c1 ≤ 9223372036854775807) ∧ rUnd_pre (p1.map fun p => p.add 0) n1 c1 (x14 + 1) m2 ∧ ∀ m4 : Mem, MemSub m2 m4 → ∀ (p3 : Option Addr) (n3 c3 : Nat), n3 ≤ 9223372036854775807 → c3 ≤ 9223372036854775807 → rUnd_post (p1.map fun p => p.add 0) n1 c1 (x14 + 1) m4 p3 n3 c3 →
 (∃ F5 : Int → Int → Prop × Nat, ((K.i64 0) ∧ (K.i64 0) ∧ (F5 0 0).1) ∧
 ∀ x18 : Int, IntKind.i64.min ≤ x18 → x18 ≤ IntKind.i64.max → ∀ x19 : Int, IntKind.i64.min ≤ x19 → x19 ≤ IntKind.i64.max → (F5 x18 x19).1 →
 ((x19 < (n3 : Int) →
 (0 ≤ x19 ∧ (p3 ≠ none ∧ (HasI m4 p3 ((0 + (x19 * 8)) + 2) 1 ∧ (∃ x20 : Int, cellI m4 p3 ((0 + (x19 * 8)) + 2) = some (Value.int IntKind.i64 x20) ∧ (K.i64 x20) ∧ (0 ≤ x14 ∧ (p1 ≠ none ∧ (HasI m4 p1 ((0 + (x14 * 8)) + 2) 1 ∧ (∃ x21 : Int, cellI m4 p1 ((0 + (x14 * 8)) + 2) = some (Value.int IntKind.i64 x21) ∧ (K.i64 x21) ∧ ((x20 = x21 →
 ((x18 + 1) ≤ 9223372036854775807 ∧ ((x19 + 1) ≤ 9223372036854775807 ∧ ((IntKind.i64.min ≤ (x18 + 1) ∧ (x18 + 1) ≤ IntKind.i64.max) ∧ (IntKind.i64.min ≤ (x19 + 1) ∧ (x19 + 1) ≤ IntKind.i64.max) ∧ ((F5 (x18 + 1) (x19 + 1)).1 ∧ (F5 (x18 + 1) (x19 + 1)).2 < (F5 x18 x19).2))))) ∧
 (x20 ≠ x21 →
 ((x19 + 1) ≤ 9223372036854775807 ∧ ((K.i64 x18) ∧ (IntKind.i64.min ≤ (x19 + 1) ∧ (x19 + 1) ≤ IntKind.i64.max) ∧ ((F5 x18 (x19 + 1)).1 ∧ (F5 x18 (x19 + 1)).2 < (F5 x18 x19).2)))))))))))))) ∧
 ((n3 : Int) ≤ x19 →
 (0 ≤ x14 ∧ (p1 ≠ none ∧ (HasI m4 p1 ((0 + (x14 * 8)) + 2) 1 ∧ (∃ x20 : Int, cellI m4 p1 ((0 + (x14 * 8)) + 2) = some (Value.int IntKind.i64 x20) ∧ (K.i64 x20) ∧ (0 ≤ x20 ∧ (x20 < (n0 : Int) ∧ (p0 ≠ none ∧ (HasI m4 p0 ((0 + (x20 * 30)) + 15) 1 ∧ (∃ x21 : Int, cellI m4 p0 ((0 + (x20 * 30)) + 15) = some (Value.int IntKind.i64 x21) ∧ (K.i64 x21) ∧ ((x21 < x18 →
 (0 ≤ x14 ∧ ((some p2) ≠ none ∧ ((0 ≤ (0 + x14) ∧ (0 + x14) + 1 ≤ (r1.length : Int)) ∧ ∀ r2 : List Value, r2 = lsetAll r1 ((0 + x14)).toNat [(Value.bool true)] → ((x14 + 1) ≤ 9223372036854775807 ∧ ((IntKind.i64.min ≤ (x14 + 1) ∧ (x14 + 1) ≤ IntKind.i64.max) ∧ ((F3 (x14 + 1) r2).1 ∧ (F3 (x14 + 1) r2).2 < (F3 x14 r1).2))))))) ∧
 (x18 ≤ x21 →
 (0 ≤ x14 ∧ ((some p2) ≠ none ∧ ((0 ≤ (0 + x14) ∧ (0 + x14) + 1 ≤ (r1.length : Int)) ∧ ∀ r2 : List Value, r2 = lsetAll r1 ((0 + x14)).toNat [(Value.bool (!(decide ((n3 : Int) ≤ x0))))] → ((x14 + 1) ≤ 9223372036854775807 ∧ ((IntKind.i64.min ≤ (x14 + 1) ∧ (x14 + 1) ≤ IntKind.i64.max) ∧ ((F3 (x14 + 1) r2).1 ∧ (F3 (x14 + 1) r2).2 < (F3 x14 r1).2)))))))))))))))))))))))))))))) ∧
 ((n1 : Int) ≤ x14 →
 (∀ m4 : Mem, MemSub m2 m4 → RowAt m4 (some p2) r1 → ((n1 ≤ 9223372036854775807 ∧ n1 ≤ 9223372036854775807) ∧ rFlw_pre 2 ((some p2).map fun p => p.add 0) n1 n1 m4 ∧ ∀ m5 : Mem, MemSub m4 m5 → ∀ (p3 : Option Addr) (n3 c3 : Nat), n3 ≤ 9223372036854775807 → c3 ≤ 9223372036854775807 → rFlw_post 2 ((some p2).map fun p => p.add 0) n1 n1 m5 p3 n3 c3 →
 ((n3 ≤ 9223372036854775807 ∧ c3 ≤ 9223372036854775807) ∧ (K.i64 0) ∧ rCap_post x0 x1 x2 x3 x4 x5 x6 p0 n0 c0 p1 n1 c1 m5 (p3.map fun p => p.add 0) n3 c3 0))))))))))) ∧
 (x11 ≠ 0 →
 ((K.i64 x11) ∧ rCap_post x0 x1 x2 x3 x4 x5 x6 p0 n0 c0 p1 n1 c1 m1 none 0 0 x11))))
set_option maxHeartbeats 4000000 in
theorem rCap_vc : rCap_VC := by
  intro m x0 _ _ x1 _ _ x2 _ _ x3 _ _ x4 _ _ x5 k5 k5' x6 k6 k6' p0 n0 c0 hn0 hc0 p1 n1 c1 hn1 hc1 ⟨hb, L, l, hL, hl⟩
  have hLn := hL.1
  have hln := hl.1
  have ps : ∀ (m' : Mem) (q : Option Addr) (n2 c2 : Nat) (z : Int), MemSub m m' → z = auE x0 x1 x2 x3 x5 x6 L l → RowM m' q (flRow 2 (auI x0 x1 x2 x3 x5 x6 L l (capP x0 L))) → n2 = (auI x0 x1 x2 x3 x5 x6 L l (capP x0 L)).length → rCap_post x0 x1 x2 x3 x4 x5 x6 p0 n0 c0 p1 n1 c1 m' q n2 c2 z := by
    intro m' q n2 c2 z h e1 e2 e3 L' l' hL' hl'
    rw [← hL.uniq h hL', ← hl.uniq h hl']
    exact ⟨e1, e2, e3⟩
  have none_ : ∀ m' : Mem, RowM m' none [] := fun m' => ⟨(fun p h => by cases h), fun _ => rfl⟩
  refine ⟨⟨hn0, hc0⟩, ⟨L, by rw [map_add0]; exact hL⟩, fun m1 hm1 e ek1 ek2 he => ?_⟩
  rw [map_add0] at he
  have he : e = cfgE x0 x1 x2 x3 x5 x6 L := he L (hL.sub hm1)
  refine ⟨fun h0 => ?_, fun hne => ?_⟩
  rotate_left
  · have ha : auE x0 x1 x2 x3 x5 x6 L l = e := by unfold auE; rw [← he, if_pos hne]
    have hi : auI x0 x1 x2 x3 x5 x6 L l (capP x0 L) = [] := by unfold auI; rw [ha, if_neg hne]
    exact ⟨⟨ek1, ek2⟩, ps m1 none 0 0 e hm1 ha.symm (by rw [hi]; exact none_ _) (by rw [hi]; rfl)⟩
  have hc : cfgE x0 x1 x2 x3 x5 x6 L = 0 := by rw [← he]; exact h0
  refine ⟨⟨hn1, hc1⟩, ?_⟩
  rw [map_add0]
  refine ⟨?_, fun m2 hm2 y yk1 yk2 g gk1 gk2 hg => ?_⟩
  · exact ⟨l, hl.sub hm1, hb⟩
  have hg0 : (y, g) = trcE (n0 : Int) l := hg l (hl.sub hm1 |>.sub hm2)
  have ha : auE x0 x1 x2 x3 x5 x6 L l = g := by unfold auE; rw [if_neg (by rw [hc]; simp), hLn, ← hg0]
  refine ⟨fun hne => ?_, fun g0 => ?_⟩
  · have hi : auI x0 x1 x2 x3 x5 x6 L l (capP x0 L) = [] := by unfold auI; rw [ha, if_neg hne]
    exact ⟨⟨gk1, gk2⟩, ps m2 none 0 0 g (hm1.trans hm2) ha.symm (by rw [hi]; exact none_ _) (by rw [hi]; rfl)⟩
  rw [g0] at hg0 ha
  obtain ⟨hjl, hev⟩ := trcE_ok hg0
  have hi : auI x0 x1 x2 x3 x5 x6 L l (capP x0 L) = idxs (marks (capD x0 L) l l.length) 0 := by unfold auI; rw [ha, if_pos rfl, cap_same hev]
  obtain ⟨h64, ⟨hT, hTau⟩, hjob⟩ := cfg_ok hc
  have hL2 := (hL.sub hm1).sub hm2
  have hl2 := (hl.sub hm1).sub hm2
  have kz : K.i64 0 := by constructor <;> decide
  have hb' : l.length ≤ 1000000 := by omega
  refine ⟨⟨by omega, by omega⟩, fun p2 r0 hr0 => ⟨fun y r => (∃ i : Nat, y = i ∧ i ≤ n1 ∧ r = mrow (capD x0 L) l n1 i, ((n1 : Int) - y).toNat), ⟨kz, 0, rfl, by omega, ?_⟩, ?_⟩⟩
  · rw [hr0, mrow_nil, Int.toNat_natCast]
  rintro y2 yk3 yk4 r1 ⟨i, rfl, hi0, rfl⟩
  refine ⟨fun hlt => ?_, fun hge => ?_⟩
  rotate_left
  · have e : i = n1 := by omega
    subst e
    intro m4 hm4 hrow
    refine ⟨⟨hn1, hn1⟩, ?_⟩
    rw [map_add0, mrow_end] at *
    have hrm : RowM m4 (some p2) (boolRow (marks (capD x0 L) l i)) := ⟨hrow, (fun h => by cases h)⟩
    refine ⟨⟨_, marks_len _ _ _, hrm, hb⟩, fun m5 hm5 p3 n3 c3 hn3 hc3 hp => ?_⟩
    obtain ⟨hp1, hp2⟩ := hp _ (marks_len _ _ _) (hrm.sub hm5)
    rw [map_add0]
    refine ⟨⟨hn3, hc3⟩, kz, ps m5 p3 n3 c3 0 (((hm1.trans hm2).trans hm4).trans hm5) ha.symm ?_ ?_⟩
    · rw [hi, hln]; exact hp1
    · rw [hi, hln]; exact hp2
  obtain ⟨x, hx, hpn, hat, hhas⟩ := hl2.at_ (i := (i : Int)) (by omega) hlt
  rw [Int.toNat_natCast] at hx
  have hva := evErr_valid (hev i x hx)
  have htk := take_snoc hx
  have hrl := mrow_len (capD x0 L) l (n := n1) (i := i) hi0
  have again : ∀ r2 : List Value, r2 = mrow (capD x0 L) l n1 (i + 1) → (((i : Int) + 1) ≤ 9223372036854775807 ∧ ((IntKind.i64.min ≤ ((i : Int) + 1) ∧ ((i : Int) + 1) ≤ IntKind.i64.max) ∧ ((∃ k : Nat, ((i : Int) + 1) = k ∧ k ≤ n1 ∧ r2 = mrow (capD x0 L) l n1 k) ∧ ((n1 : Int) - ((i : Int) + 1)).toNat < ((n1 : Int) - (i : Int)).toNat))) := fun r2 h => ⟨by omega, k64 (by omega) (by omega), ⟨i + 1, by omega, by omega, h⟩, by omega⟩
  refine ⟨by omega, hpn, hat.1.has, x.kind, hat.1.1, hat.1.2, fun hk => again _ (mrow_skip hx (by omega) (by simp [capD, hk])).symm, fun hk => ?_⟩
  obtain ⟨j, hj⟩ := Int.eq_ofNat_of_zero_le (evP_job hva.1 (by omega))
  have hj1 := hva.2.1 (by omega)
  refine ⟨by omega, by omega, ⟨hn1, hc1⟩, ?_⟩
  refine ⟨⟨l, hl2, by omega, by omega, hb⟩, fun m4 hm4 p3 n3 c3 hn3 hc3 hu => ?_⟩
  obtain ⟨hu1, hu2⟩ := hu l (hl2.sub hm4)
  rw [show ((i : Int) + 1).toNat = i + 1 by omega] at hu1
  have hat4 := hat.sub hm4
  have hjh : HasI m4 p1 ((0 + ((i : Int) * 8)) + 2) 1 := hat4.2.2.1.has
  have hul := hu1.1
  refine ⟨fun y z => (∃ k : Nat, z = k ∧ k ≤ n3 ∧ y = ((((und (l.take (i + 1))).take k).filter (jq j)).length : Int), ((n3 : Int) - z).toNat), ⟨kz, kz, 0, rfl, by omega, rfl⟩, ?_⟩
  rintro y ky1 ky2 z kz1 kz2 ⟨k, rfl, hk0, rfl⟩
  have hfl : (((und (l.take (i + 1))).take k).filter (jq j)).length ≤ k := by
    have h1 := List.length_filter_le (jq j) ((und (l.take (i + 1))).take k)
    rw [List.length_take] at h1; omega
  refine ⟨fun hlt2 => ?_, fun hge2 => ?_⟩
  · obtain ⟨u, hu3, hpn3, hut, _⟩ := hu1.at_ (i := (k : Int)) (by omega) hlt2
    rw [Int.toNat_natCast] at hu3
    have htk2 := take_snoc hu3
    refine ⟨by omega, hpn3, hut.2.2.1.has, u.job, hut.2.2.1.1, hut.2.2.1.2, by omega, hpn, hjh, x.job, hat4.2.2.1.1, hat4.2.2.1.2, fun he => ?_, fun he => ?_⟩
    · refine ⟨by omega, by omega, k64 (by omega) (by omega), k64 (by omega) (by omega), ⟨k + 1, by omega, by omega, ?_⟩, by first | omega | (simp only; omega)⟩
      rw [htk2, List.filter_append, List.filter_cons_of_pos (by simp [jq, he, hj]), List.length_append]; simp
    · refine ⟨by omega, ⟨ky1, ky2⟩, k64 (by omega) (by omega), ⟨k + 1, by omega, by omega, ?_⟩, by first | omega | (simp only; omega)⟩
      rw [htk2, List.filter_append, List.filter_cons_of_neg (by simp [jq]; omega), List.length_append]; simp
  have hkn : k = n3 := by omega
  subst hkn
  have hta : (und (l.take (i + 1))).take k = und (l.take (i + 1)) := List.take_of_length_le (by omega)
  rw [hta] at *
  obtain ⟨J, hJ, hjat⟩ := (hL2.sub hm4).at_ (i := x.job) (by omega) (by omega)
  obtain ⟨⟨q1, q2⟩, _, _, hp⟩ := hjat
  have hh : HasI m4 p0 ((0 + (x.job * 30)) + 15) 1 := hasI_part q2 15 1 (by omega)
  have hmark : capD x0 L (l.take i) x = (decide (J.pol.cap < (((und (l.take (i + 1))).filter (jq j)).length : Int)) || decide (x0 < ((und (l.take (i + 1))).length : Int))) := by
    unfold capD
    rw [hJ, ← htk, hj]
    simp only [hk, decide_true, Bool.true_and]
  have hset : ∀ b : Bool, b = capD x0 L (l.take i) x → ∀ r2 : List Value, r2 = lsetAll (mrow (capD x0 L) l n1 i) ((0 + (i : Int))).toNat [.bool b] → r2 = mrow (capD x0 L) l n1 (i + 1) := by
    intro b hb' r2 hr2
    rw [hr2, hb', show ((0 + (i : Int))).toNat = i by omega, mrow_set hx (by omega)]
  refine ⟨by omega, hpn, hjh, x.job, hat4.2.2.1.1, hat4.2.2.1.2, by omega, by omega, q1, hh, _, hp.1.1, hp.1.2, fun hA => ?_, fun hA => ?_⟩
  · exact ⟨by omega, by simp, ⟨by omega, by omega⟩, fun r2 hr2 => again r2 (hset true (by rw [hmark]; simp [hA]) r2 hr2)⟩
  · refine ⟨by omega, by simp, ⟨by omega, by omega⟩, fun r2 hr2 => again r2 (hset _ ?_ r2 hr2)⟩
    rw [hmark, Bool.eq_iff_iff]
    simp
    omega
theorem rCap_pg : ∀ m, forallF rCap.args rCap.spec fun r => r.1 m → GlobsAt m [] := fun m a b c d s t u p n cc p1 n1 c1 h => trivial
theorem rCap_ok : SpOk Tryz.prog rCap :=
  con_okZ [] [] [] rfl (sps_of [rcChk, rtChk, rFlw, rUnd] ⟨rcChk_ok, ⟨rtChk_ok, ⟨rFlw_ok, ⟨rUnd_ok, trivial⟩⟩⟩⟩ rfl) (tab_ok _ [⟨(82, 6), [], [], [], [2]⟩, ⟨(82, 12), [], [], [], []⟩]) 1000 rCap _ rfl rfl rCap_pg (Eq.mp (show rCap_VC = _ by kernel_rfl) rCap_vc)

end Go.Proofs.YtfpfagmmdiohbaaGreatDoor.Vc
set_option linter.unusedVariables false
set_option linter.unusedSimpArgs false
set_option linter.unusedVariables false
set_option linter.unusedSimpArgs false
namespace Go.Proofs.YtfpfagmmdiohbaaGreatDoor.Vc

open As

def rBkr_pre (a b c d s t u : Int) (p : Option Addr) (n cc : Nat) (p1 : Option Addr) (n1 c1 : Nat) (m : Mem) : Prop := n1 ≤ 1000000 ∧ ∃ L l, JobsAt m p n L ∧ EvsAt m p1 n1 l
def rBkr_post (a b c d s t u : Int) (p : Option Addr) (n cc : Nat) (p1 : Option Addr) (n1 c1 : Nat) (m : Mem) (q : Option Addr) (n2 c2 : Nat) (z : Int) : Prop := ∀ L l, JobsAt m p n L → EvsAt m p1 n1 l → z = auE a b c d t u L l ∧ RowM m q (flRow 4 (auI a b c d t u L l brkP_)) ∧ n2 = (auI a b c d t u L l brkP_).length
def rBkr : Sp := { args := [.i .i64, .i .i64, .i .i64, .i .i64, .i .u64, .i .i64, .i .i64, .sl, .sl], grp := [some 8, none], res := [.sl, .i .i64], rgrp := [none, none], fn := 23, spec := fun a0 a1 a2 a3 a4 a5 a6 a7 a8 a9 a10 a11 a12 => (rBkr_pre a0 a1 a2 a3 a4 a5 a6 a7 a8 a9 a10 a11 a12, rBkr_post a0 a1 a2 a3 a4 a5 a6 a7 a8 a9 a10 a11 a12) }
def rBkr_VC : Prop := ∀ m : Mem, ∀ x0 : Int, IntKind.i64.min ≤ x0 → x0 ≤ IntKind.i64.max → ∀ x1 : Int, IntKind.i64.min ≤ x1 → x1 ≤ IntKind.i64.max → ∀ x2 : Int, IntKind.i64.min ≤ x2 → x2 ≤ IntKind.i64.max → ∀ x3 : Int, IntKind.i64.min ≤ x3 → x3 ≤ IntKind.i64.max → ∀ x4 : Int, IntKind.u64.min ≤ x4 → x4 ≤ IntKind.u64.max → ∀ x5 : Int, IntKind.i64.min ≤ x5 → x5 ≤ IntKind.i64.max → ∀ x6 : Int, IntKind.i64.min ≤ x6 → x6 ≤ IntKind.i64.max → ∀ (p0 : Option Addr) (n0 c0 : Nat), n0 ≤ 9223372036854775807 → c0 ≤ 9223372036854775807 → ∀ (p1 : Option Addr) (n1 c1 : Nat), n1 ≤ 9223372036854775807 → c1 ≤ 9223372036854775807 → rBkr_pre x0 x1 x2 x3 x4 x5 x6 p0 n0 c0 p1 n1 c1 m →
 ((n0 ≤ 9223372036854775807 ∧ c0 ≤ 9223372036854775807) ∧ rcChk_pre x0 x1 x2 x3 x4 x5 x6 (p0.map fun p => p.add 0) n0 c0 m ∧ ∀ m1 : Mem, MemSub m m1 → ∀ x11 : Int, IntKind.i64.min ≤ x11 → x11 ≤ IntKind.i64.max → rcChk_post x0 x1 x2 x3 x4 x5 x6 (p0.map fun p => p.add 0) n0 c0 m1 x11 →
 ((x11 = 0 →
 ((n1 ≤ 9223372036854775807 ∧ c1 ≤ 9223372036854775807) ∧ rtChk_pre (p1.map fun p => p.add 0) n1 c1 (n0 : Int) m1 ∧ ∀ m2 : Mem, MemSub m1 m2 → ∀ x12 : Int, IntKind.i64.min ≤ x12 → x12 ≤ IntKind.i64.max → ∀ x13 : Int, IntKind.i64.min ≤ x13 → x13 ≤ IntKind.i64.max → rtChk_post (p1.map fun p => p.add 0) n1 c1 (n0 : Int) m2 x12 x13 →
 ((x13 ≠ 0 →
 ((K.i64 x13) ∧ rBkr_post x0 x1 x2 x3 x4 x5 x6 p0 n0 c0 p1 n1 c1 m2 none 0 0 x13)) ∧
 (x13 = 0 →
 ((0 ≤ (n1 : Int) ∧ (n1 : Int) ≤ 1000000) ∧ ∀ (p2 : Addr) (r0 : List Value), r0 = repl ((n1 : Int)).toNat [(Value.bool false)] → (∃ F3 : Int → List Value → Prop × Nat, ((K.i64 0) ∧ (F3 0 r0).1) ∧
 ∀ x14 : Int, IntKind.i64.min ≤ x14 → x14 ≤ IntKind.i64.max → ∀ r1 : List Value, (F3 x14 r1).1 →
 ((x14 < (n1 : Int) →
 (0 ≤ x14 ∧ (p1 ≠ none ∧ (HasI m2 p1 (0 + (x14 * 8)) 1 ∧ (∃ x15 : Int, cellI m2 p1 (0 + (x14 * 8)) = some (Value.int IntKind.i64 x15) ∧ (K.i64 x15) ∧ ((x15 ≠ 1 →
 ((x14 + 1) ≤ 9223372036854775807 ∧ ((IntKind.i64.min ≤ (x14 + 1) ∧ (x14 + 1) ≤ IntKind.i64.max) ∧ ((F3 (x14 + 1) r1).1 ∧ (F3 (x14 + 1) r1).2 < (F3 x14 r1).2)))) ∧
 (x15 = 1 →
 (∃ F4 : Int → List Value → Prop × Nat, ((K.i64 0) ∧ (F4 0 r1).1) ∧
 ∀ x16 : Int, IntKind.i64.min ≤ x16 → x16 ≤ IntKind.i64.max → ∀ r2 : List Value, (F4 x16 r2).1 →
 ((x16 < x14 →
 (0 ≤ x16 ∧ (x16 < (n1 : Int) ∧ (p1 ≠ none ∧ (HasI m2 p1 ((0 + (x16 * 8)) + 2) 1 ∧ (∃ x17 : Int, cellI m2 p1 ((0 + (x16 * 8)) + 2) = some (Value.int IntKind.i64 x17) ∧ (K.i64 x17) ∧ (0 ≤ x14 ∧ (p1 ≠ none ∧ (HasI m2 p1 ((0 + (x14 * 8)) + 2) 1 ∧ (∃ x18 : Int, cellI m2 p1 ((0 + (x14 * 8)) + 2) = some (Value.int IntKind.i64 x18) ∧ (K.i64 x18) ∧ ((x17 = x18 →
 (0 ≤ x16 ∧ (x16 < (n1 : Int) ∧ (p1 ≠ none ∧ (HasI m2 p1 (0 + (x16 * 8)) 1 ∧ (∃ x19 : Int, cellI m2 p1 (0 + (x16 * 8)) = some (Value.int IntKind.i64 x19) ∧ (K.i64 x19) ∧ ((x19 = 7 →
 (0 ≤ x16 ∧ (x16 < (n1 : Int) ∧ (p1 ≠ none ∧ (HasI m2 p1 (0 + (x16 * 8)) 1 ∧ (0 ≤ x16 ∧ (x16 < (n1 : Int) ∧ (p1 ≠ none ∧ (HasI m2 p1 ((0 + (x16 * 8)) + 7) 1 ∧ (∃ x20 : Int, cellI m2 p1 ((0 + (x16 * 8)) + 7) = some (Value.int IntKind.i64 x20) ∧ (K.i64 x20) ∧ (0 ≤ x14 ∧ (p1 ≠ none ∧ (HasI m2 p1 ((0 + (x14 * 8)) + 1) 1 ∧ (∃ x21 : Int, cellI m2 p1 ((0 + (x14 * 8)) + 1) = some (Value.int IntKind.i64 x21) ∧ (K.i64 x21) ∧ (0 ≤ x14 ∧ ((some p2) ≠ none ∧ ((0 ≤ (0 + x14) ∧ (0 + x14) + 1 ≤ (r2.length : Int)) ∧ ∀ r3 : List Value, r3 = lsetAll r2 ((0 + x14)).toNat [(Value.bool (!(decide (x20 ≤ x21))))] → ((x16 + 1) ≤ 9223372036854775807 ∧ ((IntKind.i64.min ≤ (x16 + 1) ∧ (x16 + 1) ≤ IntKind.i64.max) ∧ ((F4 (x16 + 1) r3).1 ∧ (F4 (x16 + 1) r3).2 < (F4 x16 r2).2)))))))))))))))))))) ∧
 (x19 ≠ 7 →
 (0 ≤ x16 ∧ (x16 < (n1 : Int) ∧ (p1 ≠ none ∧ (HasI m2 p1 (0 + (x16 * 8)) 1 ∧ ((x19 = 8 →
 (0 ≤ x16 ∧ (x16 < (n1 : Int) ∧ (p1 ≠ none ∧ (HasI m2 p1 (0 + (x16 * 8)) 1 ∧ (0 ≤ x14 ∧ ((some p2) ≠ none ∧ ((0 ≤ (0 + x14) ∧ (0 + x14) + 1 ≤ (r2.length : Int)) ∧ ∀ r3 : List Value, r3 = lsetAll r2 ((0 + x14)).toNat [(Value.bool false)] → ((x16 + 1) ≤ 9223372036854775807 ∧ ((IntKind.i64.min ≤ (x16 + 1) ∧ (x16 + 1) ≤ IntKind.i64.max) ∧ ((F4 (x16 + 1) r3).1 ∧ (F4 (x16 + 1) r3).2 < (F4 x16 r2).2))))))))))) ∧
 (x19 ≠ 8 →
 ((x16 + 1) ≤ 9223372036854775807 ∧ ((IntKind.i64.min ≤ (x16 + 1) ∧ (x16 + 1) ≤ IntKind.i64.max) ∧ ((F4 (x16 + 1) r2).1 ∧ (F4 (x16 + 1) r2).2 < (F4 x16 r2).2))))))))))))))))) ∧
 (x17 ≠ x18 →
 ((x16 + 1) ≤ 9223372036854775807 ∧ ((IntKind.i64.min ≤ (x16 + 1) ∧ (x16 + 1) ≤ IntKind.i64.max) ∧ ((F4 (x16 + 1) r2).1 ∧ (F4 (x16 + 1) r2).2 < (F4 x16 r2).2))))))))))))))) ∧
 (x14 ≤ x16 →
 ((x14 + 1) ≤ 9223372036854775807 ∧ ((IntKind.i64.min ≤ (x14 + 1) ∧ (x14 + 1) ≤ IntKind.i64.max) ∧ ((F3 (x14 + 1) r2).1 ∧ (F3 (x14 + 1) r2).2 < (F3 x14 r1).2))))))))))))) ∧
 ((n1 : Int) ≤ x14 →
 (∀ m4 : Mem, MemSub m2 m4 → RowAt m4 (some p2) r1 → ((n1 ≤ 9223372036854775807 ∧ n1 ≤ 9223372036854775807) ∧ rFlw_pre 4 ((some p2).map fun p => p.add 0) n1 n1 m4 ∧ ∀ m5 : Mem, MemSub m4 m5 → ∀ (p3 : Option Addr) (n3 c3 : Nat), n3 ≤ 9223372036854775807 → c3 ≤ 9223372036854775807 → rFlw_post 4 ((some p2).map fun p => p.add 0) n1 n1 m5 p3 n3 c3 →
 ((n3 ≤ 9223372036854775807 ∧ c3 ≤ 9223372036854775807) ∧ (K.i64 0) ∧ rBkr_post x0 x1 x2 x3 x4 x5 x6 p0 n0 c0 p1 n1 c1 m5 (p3.map fun p => p.add 0) n3 c3 0))))))))))) ∧
 (x11 ≠ 0 →
 ((K.i64 x11) ∧ rBkr_post x0 x1 x2 x3 x4 x5 x6 p0 n0 c0 p1 n1 c1 m1 none 0 0 x11))))
set_option maxHeartbeats 4000000 in
theorem rBkr_vc : rBkr_VC := by
  intro m x0 _ _ x1 _ _ x2 _ _ x3 _ _ x4 _ _ x5 k5 k5' x6 k6 k6' p0 n0 c0 hn0 hc0 p1 n1 c1 hn1 hc1 ⟨hb, L, l, hL, hl⟩
  have hLn := hL.1
  have hln := hl.1
  have ps : ∀ (m' : Mem) (q : Option Addr) (n2 c2 : Nat) (z : Int), MemSub m m' → z = auE x0 x1 x2 x3 x5 x6 L l → RowM m' q (flRow 4 (auI x0 x1 x2 x3 x5 x6 L l brkP_)) → n2 = (auI x0 x1 x2 x3 x5 x6 L l brkP_).length → rBkr_post x0 x1 x2 x3 x4 x5 x6 p0 n0 c0 p1 n1 c1 m' q n2 c2 z := by
    intro m' q n2 c2 z h e1 e2 e3 L' l' hL' hl'
    rw [← hL.uniq h hL', ← hl.uniq h hl']
    exact ⟨e1, e2, e3⟩
  have none_ : ∀ m' : Mem, RowM m' none [] := fun m' => ⟨(fun p h => by cases h), fun _ => rfl⟩
  refine ⟨⟨hn0, hc0⟩, ⟨L, by rw [map_add0]; exact hL⟩, fun m1 hm1 e ek1 ek2 he => ?_⟩
  rw [map_add0] at he
  have he : e = cfgE x0 x1 x2 x3 x5 x6 L := he L (hL.sub hm1)
  refine ⟨fun h0 => ?_, fun hne => ?_⟩
  rotate_left
  · have ha : auE x0 x1 x2 x3 x5 x6 L l = e := by unfold auE; rw [← he, if_pos hne]
    have hi : auI x0 x1 x2 x3 x5 x6 L l brkP_ = [] := by unfold auI; rw [ha, if_neg hne]
    exact ⟨⟨ek1, ek2⟩, ps m1 none 0 0 e hm1 ha.symm (by rw [hi]; exact none_ _) (by rw [hi]; rfl)⟩
  have hc : cfgE x0 x1 x2 x3 x5 x6 L = 0 := by rw [← he]; exact h0
  refine ⟨⟨hn1, hc1⟩, ?_⟩
  rw [map_add0]
  refine ⟨?_, fun m2 hm2 y yk1 yk2 g gk1 gk2 hg => ?_⟩
  · exact ⟨l, hl.sub hm1, hb⟩
  have hg0 : (y, g) = trcE (n0 : Int) l := hg l (hl.sub hm1 |>.sub hm2)
  have ha : auE x0 x1 x2 x3 x5 x6 L l = g := by unfold auE; rw [if_neg (by rw [hc]; simp), hLn, ← hg0]
  refine ⟨fun hne => ?_, fun g0 => ?_⟩
  · have hi : auI x0 x1 x2 x3 x5 x6 L l brkP_ = [] := by unfold auI; rw [ha, if_neg hne]
    exact ⟨⟨gk1, gk2⟩, ps m2 none 0 0 g (hm1.trans hm2) ha.symm (by rw [hi]; exact none_ _) (by rw [hi]; rfl)⟩
  rw [g0] at hg0 ha
  obtain ⟨hjl, hev⟩ := trcE_ok hg0
  have hi : auI x0 x1 x2 x3 x5 x6 L l brkP_ = idxs (marks brkD l l.length) 0 := by unfold auI; rw [ha, if_pos rfl, brk_same hev]
  obtain ⟨h64, ⟨hT, hTau⟩, hjob⟩ := cfg_ok hc
  have hL2 := (hL.sub hm1).sub hm2
  have hl2 := (hl.sub hm1).sub hm2
  have kz : K.i64 0 := by constructor <;> decide
  have hb' : l.length ≤ 1000000 := by omega
  refine ⟨⟨by omega, by omega⟩, fun p2 r0 hr0 => ⟨fun y r => (∃ i : Nat, y = i ∧ i ≤ n1 ∧ r = mrow brkD l n1 i, ((n1 : Int) - y).toNat), ⟨kz, 0, rfl, by omega, ?_⟩, ?_⟩⟩
  · rw [hr0, mrow_nil, Int.toNat_natCast]
  rintro y2 yk3 yk4 r1 ⟨i, rfl, hi0, rfl⟩
  refine ⟨fun hlt => ?_, fun hge => ?_⟩
  rotate_left
  · have e : i = n1 := by omega
    subst e
    intro m4 hm4 hrow
    refine ⟨⟨hn1, hn1⟩, ?_⟩
    rw [map_add0, mrow_end] at *
    have hrm : RowM m4 (some p2) (boolRow (marks brkD l i)) := ⟨hrow, (fun h => by cases h)⟩
    refine ⟨⟨_, marks_len _ _ _, hrm, hb⟩, fun m5 hm5 p3 n3 c3 hn3 hc3 hp => ?_⟩
    obtain ⟨hp1, hp2⟩ := hp _ (marks_len _ _ _) (hrm.sub hm5)
    rw [map_add0]
    refine ⟨⟨hn3, hc3⟩, kz, ps m5 p3 n3 c3 0 (((hm1.trans hm2).trans hm4).trans hm5) ha.symm ?_ ?_⟩
    · rw [hi, hln]; exact hp1
    · rw [hi, hln]; exact hp2
  obtain ⟨x, hx, hpn, hat, hhas⟩ := hl2.at_ (i := (i : Int)) (by omega) hlt
  rw [Int.toNat_natCast] at hx
  have hva := evErr_valid (hev i x hx)
  have htk := take_snoc hx
  have hrl := mrow_len brkD l (n := n1) (i := i) hi0
  have again : ∀ r2 : List Value, r2 = mrow brkD l n1 (i + 1) → (((i : Int) + 1) ≤ 9223372036854775807 ∧ ((IntKind.i64.min ≤ ((i : Int) + 1) ∧ ((i : Int) + 1) ≤ IntKind.i64.max) ∧ ((∃ k : Nat, ((i : Int) + 1) = k ∧ k ≤ n1 ∧ r2 = mrow brkD l n1 k) ∧ ((n1 : Int) - ((i : Int) + 1)).toNat < ((n1 : Int) - (i : Int)).toNat))) := fun r2 h => ⟨by omega, k64 (by omega) (by omega), ⟨i + 1, by omega, by omega, h⟩, by omega⟩
  refine ⟨by omega, hpn, hat.1.has, x.kind, hat.1.1, hat.1.2, fun hk => again _ (mrow_skip hx (by omega) (by simp [brkD, hk])).symm, fun hk => ?_⟩
  obtain ⟨j, hj⟩ := Int.eq_ofNat_of_zero_le (evP_job hva.1 (by omega))
  have hj1 := hva.2.1 (by omega)
  have hmark : brkD (l.take i) x = brkF x (l.take i) := by unfold brkD; simp [hk]
  refine ⟨fun z r => (∃ k : Nat, z = k ∧ k ≤ i ∧ r = mrowB brkD l n1 i (brkF x (l.take k)), ((i : Int) - z).toNat), ⟨kz, 0, rfl, by omega, ?_⟩, ?_⟩
  · exact mrowB_in _ _ (by omega)
  rintro z kz1 kz2 r2 ⟨k, rfl, hk0, rfl⟩
  refine ⟨fun hlt2 => ?_, fun hge2 => ?_⟩
  rotate_left
  · have : k = i := by omega
    subst this
    exact again _ (by rw [← hmark]; exact mrowB_out hx)
  obtain ⟨u, hu3, hpn3, hut, _⟩ := hl2.at_ (i := (k : Int)) (by omega) (by omega)
  rw [Int.toNat_natCast] at hu3
  have htk2 := take_snoc hu3
  have hbl := mrowB_len brkD l (n := n1) (i := i) (by omega) (brkF x (l.take k))
  have next : ∀ r3 : List Value, r3 = mrowB brkD l n1 i (brkF x (l.take (k + 1))) → (((k : Int) + 1) ≤ 9223372036854775807 ∧ ((IntKind.i64.min ≤ ((k : Int) + 1) ∧ ((k : Int) + 1) ≤ IntKind.i64.max) ∧ ((∃ k' : Nat, ((k : Int) + 1) = k' ∧ k' ≤ i ∧ r3 = mrowB brkD l n1 i (brkF x (l.take k'))) ∧ ((i : Int) - ((k : Int) + 1)).toNat < ((i : Int) - (k : Int)).toNat))) := fun r3 h => ⟨by omega, k64 (by omega) (by omega), ⟨k + 1, by omega, by omega, h⟩, by omega⟩
  have hset : ∀ b : Bool, b = brkF x (l.take (k + 1)) → ∀ r3 : List Value, r3 = lsetAll (mrowB brkD l n1 i (brkF x (l.take k))) ((0 + (i : Int))).toNat [.bool b] → r3 = mrowB brkD l n1 i (brkF x (l.take (k + 1))) := by
    intro b hb' r3 hr3
    rw [hr3, show ((0 + (i : Int))).toNat = i by omega, mrowB_set (by omega), hb']
  refine ⟨by omega, by omega, hpn, hut.2.2.1.has, u.job, hut.2.2.1.1, hut.2.2.1.2, by omega, hpn, hat.2.2.1.has, x.job, hat.2.2.1.1, hat.2.2.1.2, fun he => ?_, fun he => ?_⟩
  · refine ⟨by omega, by omega, hpn, hut.1.has, u.kind, hut.1.1, hut.1.2, fun h7 => ?_, fun h7 => ?_⟩
    · refine ⟨by omega, by omega, hpn, hut.1.has, by omega, by omega, hpn, hut.2.2.2.2.2.2.2.has, u.when_, hut.2.2.2.2.2.2.2.1, hut.2.2.2.2.2.2.2.2, by omega, hpn, hat.2.1.has, x.at_, hat.2.1.1, hat.2.1.2, by omega, by simp, ⟨by omega, by omega⟩, fun r3 hr3 => next _ (hset _ ?_ r3 hr3)⟩
      rw [htk2, brkF_snoc, brkS, if_pos he, if_pos h7]
    · refine ⟨by omega, by omega, hpn, hut.1.has, fun h8 => ?_, fun h8 => ?_⟩
      · refine ⟨by omega, by omega, hpn, hut.1.has, by omega, by simp, ⟨by omega, by omega⟩, fun r3 hr3 => next _ (hset _ ?_ r3 hr3)⟩
        rw [htk2, brkF_snoc, brkS, if_pos he, if_neg h7, if_pos h8]
      · refine next _ ?_
        rw [htk2, brkF_snoc, brkS, if_pos he, if_neg h7, if_neg h8]
  · refine next _ ?_
    rw [htk2, brkF_snoc, brkS, if_neg he]
theorem rBkr_pg : ∀ m, forallF rBkr.args rBkr.spec fun r => r.1 m → GlobsAt m [] := fun m a b c d s t u p n cc p1 n1 c1 h => trivial
theorem rBkr_ok : SpOk Tryz.prog rBkr :=
  con_okZ [] [] [] rfl (sps_of [rcChk, rtChk, rFlw] ⟨rcChk_ok, ⟨rtChk_ok, ⟨rFlw_ok, trivial⟩⟩⟩ rfl) (tab_ok _ [⟨(87, 6), [], [], [], [2]⟩, ⟨(87, 10), [], [], [], [2]⟩]) 1000 rBkr _ rfl rfl rBkr_pg (Eq.mp (show rBkr_VC = _ by kernel_rfl) rBkr_vc)

end Go.Proofs.YtfpfagmmdiohbaaGreatDoor.Vc
set_option linter.unusedVariables false
set_option linter.unusedSimpArgs false
set_option linter.unusedVariables false
set_option linter.unusedSimpArgs false
namespace Go.Proofs.YtfpfagmmdiohbaaGreatDoor.Vc
open Go.Shelf Go.RowKit Go.Lib As
def cloneR : Go.Shelf.Ren := ⟨fun | 41 => 20 | n => n, fun | 22 => 30 | 23 => 55 | 4 => 4 | n => n, fun | n => n⟩
theorem cloneL : Go.Proofs.SlLaysE0.n41 Tryz.prog cloneR := {
  mixed := by kernel_rfl
  f41 := ⟨Tryz.f20.name, by decide, Tryz.func20.trans (congrArg some (by kernel_rfl))⟩
  t4 := Tryz.underlying4
  a4 := Tryz.isAgg4
  z4 := Tryz.sizeOf4
  v4 := Tryz.zeroValue4
  t22 := Tryz.underlying30
  a22 := Tryz.isAgg30
  z22 := Tryz.sizeOf30
  v22 := Tryz.zeroValue30 }
theorem ev_zero : ∃ z, Tryz.t55.zero = some z ∧ z.cells.size = 8 := by
  have h : (match Tryz.t55.zero with | some z => z.cells.size | none => 0) = 8 := by kernel_rfl
  split at h
  · rename_i z hz; exact ⟨z, hz, h⟩
  · cases h
theorem ev_size : Tryz.t55.size = 8 := by kernel_rfl
theorem ev_bytes : Tryz.t55.bytes = 64 := by kernel_rfl
theorem ev_info : Tryz.prog.info? 55 = some Tryz.t55 := by kernel_rfl
set_option maxHeartbeats 2000000 in
set_option maxRecDepth 100000 in
theorem clone_zero (a : Addr) (c : Nat) (w : World) : Calls Tryz.prog 20 #[.slice (some a) 0 c] w fun e w' => ∃ v', e = .returned v' ∧ w'.ownsRow w.heap.size 55 8 v' 0 [] ∧ Below w.heap.size w w' := by
  have L := cloneL
  have mixed := L.mixed; have t4 := L.t4; have a4 := L.a4; have z4 := L.z4; have v4 := L.v4; have t22 := L.t22; have a22 := L.a22; have z22 := L.z22; have v22 := L.v22
  have q22 : ∀ (w : World) (a : Option Addr) (n c n' c' : Nat), (binOp .eql (cloneR.t 22) (.slice a n c) (.slice none n' c')).run Tryz.prog w = .ok (.bool a.isNone) w := fun w a n c n' c' => Lib.run_eql_slice_nil w _ _ a n c n' c' L.t22
  have u22 : ∀ w, Sem.run Tryz.prog (underlying (cloneR.t 22)) w = .ok (TypeDesc.slice (cloneR.t 23)) w := run_underlying t22
  have z23 : ∀ w, (Go.sizeOf (cloneR.t 23)).run Tryz.prog w = .ok 8 w := Tryz.sizeOf55
  obtain ⟨z, hz0, hzs⟩ := ev_zero
  have hi : Tryz.prog.info? (cloneR.t 23) = some Tryz.t55 := ev_info
  have hz1 := ev_size; have hz2 := ev_bytes
  generalize Tryz.t55 = i0 at hi hz0 hz1 hz2
  obtain ⟨_, _, FG⟩ := L.f41
  show Calls Tryz.prog (cloneR.f 41) _ w _
  go_enter FG, SlBodyN.n41_ntmps cloneR
  go_wp2_with (at_builtin; refine wpList_append_own _ rfl _ _ (cloneR.t 22) rfl w.heap.size (cloneR.t 23) i0 z 8 64 t22 hi hz0 hz1 hz2 hzs (by decide) _ _ _ rfl (World.ownsRow_made w #[] 0 (Nat.le_refl _) (Nat.zero_le _) (by simp)) a 0 c [] rfl rfl (by intro j u hj; simp at hj) (by intro u hu; cases hu) (by unfold maxLen; omega) (by omega) (by simp) ?_)
  intro v' w1 hown hgrow hnil
  go_wp2
  go_ret
  have hown' : w1.ownsRow w.heap.size (cloneR.t 23) 8 v' 0 [] := by simpa using hown
  refine ⟨v', rfl, hown', ?_⟩
  exact ((Below.refl _ w).alloc (Nat.le_refl _) _).grown hgrow (by simp) (by intro k hk; simp [Value.ownBlock] at hk; omega)
theorem evRow_len : ∀ l : List Ev, (evRow l).length = l.length * 8 := by
  intro l
  induction l with
  | nil => rfl
  | cons x l ih => simp only [evRow, List.length_append, List.length_cons, ih]; show 8 + l.length * 8 = _; omega
theorem evRow_one : ∀ (l : List Ev) (u : Value), u ∈ evRow l → u.oneCell' = true := by
  intro l
  induction l with
  | nil => intro u h; cases h
  | cons x l ih =>
    intro u h
    simp only [evRow, List.mem_append] at h
    rcases h with h | h
    · simp only [evCells, List.mem_cons, List.not_mem_nil, or_false] at h
      rcases h with rfl | rfl | rfl | rfl | rfl | rfl | rfl | rfl <;> rfl
    · exact ih u h
/-- Events of the memory, cell by cell. -/
theorem evs_cell {m : Mem} {q : Addr} {n : Nat} {l : List Ev} (h : EvsAt m (some q) n l) {j : Nat} {u : Value} (hu : (evRow l)[j]? = some u) : memCell m (q.add j) = some u := by
  have hj : j < l.length * 8 := by
    have := (List.getElem?_eq_some_iff.1 hu).1
    rw [evRow_len] at this; exact this
  have hx : l[j / 8]? = some (l[j / 8]'(by omega)) := List.getElem?_eq_getElem _
  generalize l[j / 8]'(by omega) = x at hx
  have hat := h.2 _ x hx
  have e : j = j / 8 * 8 + j % 8 := by omega
  have hg := evRow_get l (j / 8) (j % 8) x hx (by omega)
  rw [← e, hu] at hg
  have key : ∀ k : Nat, k = j % 8 → ∀ v : Int, IntAt m (some q) (((j / 8 : Nat) : Int) * 8 + (k : Int)) v → (evCells x)[k]? = some (.int .i64 v) → memCell m (q.add j) = some u := by
    intro k hk v hv he
    rw [hk, ← hg] at he
    injection he with he
    obtain ⟨q', o, hq, ho, h1, _⟩ := cellI_inv hv.1
    cases hq
    have : o = j := by
      have : ((j / 8 : Nat) : Int) * 8 + (k : Int) = (j : Int) := by omega
      rw [this] at ho
      have : (j : Int) = (o : Int) := ho
      omega
    rw [he, ← this]; exact h1
  rcases (by omega : j % 8 = 0 ∨ j % 8 = 1 ∨ j % 8 = 2 ∨ j % 8 = 3 ∨ j % 8 = 4 ∨ j % 8 = 5 ∨ j % 8 = 6 ∨ j % 8 = 7) with g | g | g | g | g | g | g | g
  · exact key 0 g.symm _ (by simpa using hat.1) rfl
  · exact key 1 g.symm _ hat.2.1 rfl
  · exact key 2 g.symm _ hat.2.2.1 rfl
  · exact key 3 g.symm _ hat.2.2.2.1 rfl
  · exact key 4 g.symm _ hat.2.2.2.2.1 rfl
  · exact key 5 g.symm _ hat.2.2.2.2.2.1 rfl
  · exact key 6 g.symm _ hat.2.2.2.2.2.2.1 rfl
  · exact key 7 g.symm _ hat.2.2.2.2.2.2.2 rfl
theorem clone_ev (a : Option Addr) (n c : Nat) (l : List Ev) (m : Mem) (w : World) (hm : ∀ b o, m b = some o → w.heap[b]? = some o) (h : EvsAt m a n l) (hn : n ≤ 1000000) :
    Calls Tryz.prog 20 #[.slice a n c] w fun e w' => ∃ v', e = .returned v' ∧ w'.ownsRow w.heap.size 55 8 v' n (evRow l) ∧ Below w.heap.size w w' := by
  have hl := h.1
  cases a with
  | none =>
    have h0 : l = [] := by
      cases l with
      | nil => rfl
      | cons x l => exact ((h.2 0 x rfl).1.ne rfl).elim
    subst h0
    have hn0 : n = 0 := by rw [← hl]; rfl
    subst hn0
    refine (AnyE.slices_Clone_nil cloneL 0 c w).mono fun e w' he => ?_
    obtain ⟨rfl, rfl⟩ := he
    exact ⟨_, rfl, ⟨rfl, .inl ⟨rfl, rfl⟩⟩, Below.refl _ _⟩
  | some q =>
    by_cases hs : q.spot = none
    · obtain ⟨b, off, spot⟩ := q
      have hs : spot = none := hs
      subst hs
      obtain ⟨z, hz0, hzs⟩ := ev_zero
      refine (AnyE.slices_Clone cloneL Tryz.t55 z 8 64 ev_info hz0 ev_size ev_bytes hzs (by decide) Tryz.sizeOf55 b off n c (evRow l) w (by rw [evRow_len, hl]) (by unfold maxLen; omega) (by omega) (fun j u hu => ?_) (evRow_one l)).mono fun e w' he => ?_
      · have h1 := evs_cell h hu
        have e : (Addr.add ⟨b, off, none⟩ j) = ⟨b, off + j, none⟩ := Addr.add_lit ..
        rw [e] at h1
        unfold memCell at h1
        unfold World.cell?
        split at h1
        · rename_i cs e1 e2 hb
          rw [hm _ _ hb]; exact h1
        · cases h1
      · obtain ⟨v', h1, h2, _, h3⟩ := he
        exact ⟨v', h1, h2, h3⟩
    · have h0 : l = [] := by
        cases l with
        | nil => rfl
        | cons x l =>
          obtain ⟨q', o, hq, ho, h1, _⟩ := cellI_inv (h.2 0 x rfl).1.1
          cases hq
          unfold memCell at h1
          split at h1
          · split at h1
            · cases h1
            · rename_i hsp
              have ho0 : o = 0 := by
                have : (0 : Int) = (o : Int) := by simpa using ho
                omega
              subst ho0
              have : q.add 0 = q := by simp [Addr.add]
              rw [this] at hsp
              exact (hs (by simpa using hsp)).elim
          · cases h1
      subst h0
      have hn0 : n = 0 := by rw [← hl]; rfl
      subst hn0
      exact clone_zero q c w
def clE_pre (p : Option Addr) (n c : Nat) (m : Mem) : Prop := ∃ l, EvsAt m p n l ∧ n ≤ 1000000
def clE_post (p : Option Addr) (n c : Nat) (m : Mem) (q : Option Addr) (n' c' : Nat) : Prop := ∀ l, EvsAt m p n l → EvsAt m q n' l
def clE : Sp := { args := [.sl], grp := [none], res := [.sl], rgrp := [none], fn := 20, spec := fun a0 a1 a2 => (clE_pre a0 a1 a2, clE_post a0 a1 a2) }
theorem clE_ok : SpOk Tryz.prog clE := by
  intro m w ys xs hm hp ha
  match ys, ha with
  | [.slice p n c], ha =>
    obtain ⟨hnc, l, hl, hn⟩ := ha
    cases hp
    refine (clone_ev p n c l m w hm hl hn).mono fun e w' h => ?_
    obtain ⟨v', rfl, ⟨hlen, hown⟩, hb⟩ := h
    have up : ∀ b o, (fun b => if b < w.heap.size then m b else w'.heap[b]?) b = some o → w'.heap[b]? = some o ∧ (m b = some o ∨ w.heap.size ≤ b) := by
      intro b o h
      simp only at h
      split at h
      · rename_i hlt
        exact ⟨by rw [hb.block _ hlt]; exact hm b o h, .inl h⟩
      · exact ⟨h, .inr (by omega)⟩
    have sub : MemSub m (fun b => if b < w.heap.size then m b else w'.heap[b]?) := by
      intro b o h
      have : b < w.heap.size := by
        have := (Array.getElem?_eq_some_iff.1 (hm b o h)).1
        exact this
      simp only [if_pos this]; exact h
    have uq : ∀ q (hq : EvsAt (fun b => if b < w.heap.size then m b else w'.heap[b]?) q n l), ∀ l', EvsAt (fun b => if b < w.heap.size then m b else w'.heap[b]?) p n l' → EvsAt (fun b => if b < w.heap.size then m b else w'.heap[b]?) q n l' := fun q hq l' hl' => by
      rw [← hl.uniq sub hl']; exact hq
    rcases hown with ⟨rfl, rfl⟩ | ⟨g, cap, cur, rfl, hg, hcur, h1, h2, h3, h4⟩
    · refine ⟨_, [.slice none 0 0], [.slice none 0 0], rfl, rfl, hb, sub, up, hnc, ⟨by omega, by omega⟩, ?_⟩
      refine uq none ?_
      have : l = [] := List.length_eq_zero_iff.1 hl.1
      subst this
      exact ⟨rfl, fun i x h => by simp at h⟩
    · have hm2 : maxLen = 9223372036854775807 := rfl
      refine ⟨_, [.slice (some ⟨g, 0, none⟩) n cap], [.slice (some ⟨g, 0, none⟩) n cap], rfl, rfl, hb, sub, up, hnc, ⟨by omega, by omega⟩, ?_⟩
      refine uq _ ?_
      have hrow : RowM (fun b => if b < w.heap.size then m b else w'.heap[b]?) (some ⟨g, 0, none⟩) (evRow l) := by
        refine ⟨fun q hq j x hx => ?_, (fun h => by cases h)⟩
        cases hq
        have e : (Addr.add ⟨g, 0, none⟩ j) = ⟨g, 0 + j, none⟩ := Addr.add_lit ..
        rw [e]
        unfold memCell
        simp only [if_neg (by omega : ¬ g < w.heap.size), hcur, Nat.zero_add]
        rw [← h4] at hx
        have hj := (List.getElem?_eq_some_iff.1 hx).1
        rw [List.getElem?_take, if_pos (by rw [List.length_take] at hj; omega), Array.getElem?_toList] at hx
        exact hx
      have := evRow_at hrow hl.ok
      rw [hl.1] at this
      exact this
end Go.Proofs.YtfpfagmmdiohbaaGreatDoor.Vc
