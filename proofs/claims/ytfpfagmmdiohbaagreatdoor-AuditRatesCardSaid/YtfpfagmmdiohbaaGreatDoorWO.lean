/-
  Contracts, by their trees; Contracts, by their trees; Contracts, by their trees; Contracts, by their trees.
-/
import Derived.Test.YtfpfagmmdiohbaaGreatDoorWN
set_option linter.unusedVariables false
set_option linter.unusedSimpArgs false
set_option linter.unusedVariables false
set_option linter.unusedSimpArgs false
namespace Go.Proofs.YtfpfagmmdiohbaaGreatDoor.Vc

open As
def jq (j : Int) (x : Ev) : Bool := decide (x.job = j)
def allq (x : Ev) : Bool := true
def rateP (t u : Int) (L : List JobR) (p : List Ev) (x : Ev) : Bool :=
  decide (x.kind = 1) && (As.early t u (lat allq p) x.at_ || match L[x.job.toNat]? with | some J => As.early J.pol.lim.t J.pol.lim.tau (lat (jq x.job) p) x.at_ | none => false)
theorem marks_hit {f : List Ev → Ev → Bool} {l : List Ev} {i : Nat} {x : Ev} (h : l[i]? = some x) (hb : f (l.take i) x = true) : idxs (marks f l (i + 1)) 0 = idxs (marks f l i) 0 ++ [i] := by
  rw [marks_succ f l h, idxs_app, hb, marks_len]; simp
theorem marks_miss {f : List Ev → Ev → Bool} {l : List Ev} {i : Nat} {x : Ev} (h : l[i]? = some x) (hb : f (l.take i) x = false) : idxs (marks f l (i + 1)) 0 = idxs (marks f l i) 0 := by
  rw [marks_succ f l h, idxs_app, hb]; simp
theorem idx_marks_len (f : List Ev → Ev → Bool) (l : List Ev) (i : Nat) : (idxs (marks f l i) 0).length ≤ i := by
  have := idxs_len (marks f l i) 0
  rw [marks_len] at this; exact this
/-- The row of the jobs' limits with the times that they run to. -/
def OwnAt (r : List Value) (L : List JobR) (p : List Ev) : Prop := r.length = 3 * L.length ∧ ∀ (j : Nat) (J : JobR), L[j]? = some J → r[3 * j]? = some (.int .i64 J.pol.lim.t) ∧ r[3 * j + 1]? = some (.int .i64 J.pol.lim.tau) ∧ r[3 * j + 2]? = some (.int .i64 (nextOf J.pol.lim.t (lat (jq j) p)))
theorem OwnAt.skip {r : List Value} {L : List JobR} {p : List Ev} {x : Ev} (h : OwnAt r L p) (hk : x.kind ≠ 1) : OwnAt r L (p ++ [x]) := by
  refine ⟨h.1, fun j J hJ => ?_⟩
  rw [lat_snoc, if_neg (fun g => hk g.1), List.append_nil]
  exact h.2 j J hJ
theorem OwnAt.step {r : List Value} {L : List JobR} {p : List Ev} {x : Ev} {j : Nat} {J : JobR} {v : Int} (h : OwnAt r L p) (hk : x.kind = 1) (hj : x.job = (j : Int)) (hJ : L[j]? = some J) (hv : v = max (nextOf J.pol.lim.t (lat (jq j) p)) x.at_ + J.pol.lim.t) : OwnAt (lsetAll r (3 * j + 2) [.int .i64 v]) L (p ++ [x]) := by
  have hjl := (List.getElem?_eq_some_iff.1 hJ).1
  have hl := h.1
  refine ⟨by rw [lsetAll_length]; exact hl, fun k T hT => ?_⟩
  obtain ⟨g1, g2, g3⟩ := h.2 k T hT
  have hkl := (List.getElem?_eq_some_iff.1 hT).1
  have hlen : 3 * j + 2 + [Value.int IntKind.i64 v].length ≤ r.length := by simp only [List.length_cons, List.length_nil]; omega
  rw [lset_get _ _ _ _ hlen, lset_get _ _ _ _ hlen, lset_get _ _ _ _ hlen]
  simp only [List.length_cons, List.length_nil]
  rw [if_neg (by omega), if_neg (by omega)]
  refine ⟨g1, g2, ?_⟩
  by_cases e : k = j
  · subst e
    rw [hJ] at hT; cases hT
    rw [if_pos (by omega), lat_snoc, if_pos ⟨hk, by simp [jq, hj]⟩, next_snoc, ← hv]
    simp
  · rw [if_neg (by omega), lat_snoc, if_neg (fun g => by have := g.2; simp only [jq, decide_eq_true_eq] at this; omega), List.append_nil]
    exact g3
theorem next_span {T : Int} {q : Ev → Bool} {p : List Ev} (hT : 0 ≤ T ∧ T ≤ 68719476736) (hp : p.length ≤ 1000000) (hv : ∀ x ∈ p, x.at_ ≤ 253402300799) : 0 ≤ nextOf T (lat q p) ∧ nextOf T (lat q p) ≤ 69000000000000000 := by
  obtain ⟨h1, h2⟩ := nextOf_bound (T := T) (M := 253402300799) hT.1 (by omega) (lat q p) (fun v hv' => by
    obtain ⟨x, hx, _, e⟩ := lat_mem hv'
    have := hv x hx
    omega)
  have h3 := lat_len q p
  have h4 : ((lat q p).length : Int) * T ≤ 1000000 * 68719476736 := Int.mul_le_mul (by omega) hT.2 hT.1 (by omega)
  omega
/-- The launches so far, the flaws so far. -/
def ratInv (t u : Int) (L : List JobR) (l : List Ev) (q : Option Addr) (n : Nat) (y v : Int) (r2 r3 : List Value) : Prop :=
  ∃ i : Nat, y = i ∧ i ≤ l.length ∧ v = nextOf t (lat allq (l.take i)) ∧ r2 = flRow 3 (idxs (marks (rateP t u L) l i) 0) ∧ n = (idxs (marks (rateP t u L) l i) 0).length ∧ (q = none → r2 = []) ∧ OwnAt r3 L (l.take i)
theorem rat_hit {t u : Int} {L : List JobR} {l : List Ev} {n n1 i : Nat} {v : Int} {r2 r4 : List Value} {x : Ev} (hx : l[i]? = some x) (hl : l.length ≤ 1000000) (hn1 : l.length = n1) (hr : r2 = flRow 3 (idxs (marks (rateP t u L) l i) 0)) (hn : n = (idxs (marks (rateP t u L) l i) 0).length)
    (hf : rateP t u L (l.take i) x = true) (hv : v = nextOf t (lat allq (l.take (i + 1)))) (hvk : K.i64 v) (ho : OwnAt r4 L (l.take (i + 1))) :
    (2 * ((n : Int) + 1) * 16 ≤ 281474976710656) ∧ ∀ (p4 : Addr) (c4 : Nat) (r5 : List Value), r5 = r2 ++ [.int .i64 3, .int .i64 (i : Int)] → (n : Int) + 1 ≤ (c4 : Int) → c4 ≤ 9223372036854775807 → (((i : Int) + 1) ≤ 9223372036854775807 ∧ (((Int.toNat ((n : Int) + 1)) ≤ 9223372036854775807 ∧ c4 ≤ 9223372036854775807) ∧ (IntKind.i64.min ≤ ((i : Int) + 1) ∧ ((i : Int) + 1) ≤ IntKind.i64.max) ∧ (K.i64 v) ∧
      (ratInv t u L l ((some p4).map fun p => p.add 0) (Int.toNat ((n : Int) + 1)) ((i : Int) + 1) v r5 r4 ∧ ((n1 : Int) - ((i : Int) + 1)).toNat < ((n1 : Int) - (i : Int)).toNat))) := by
  have hi := (List.getElem?_eq_some_iff.1 hx).1
  have hm := idx_marks_len (rateP t u L) l i
  have e := marks_hit (f := rateP t u L) hx hf
  refine ⟨by omega, fun p4 c4 r5 hr5 h1 h2 => ⟨by omega, ⟨by omega, h2⟩, k64 (by omega) (by omega), hvk, ⟨i + 1, by omega, by omega, hv, ?_, ?_, (fun h => by cases h), ho⟩, by omega⟩⟩
  · rw [hr5, e, flRow_app, hr]
  · rw [e, List.length_append, ← hn]; simp
theorem rat_miss {t u : Int} {L : List JobR} {l : List Ev} {n c n1 i : Nat} {q : Option Addr} {v : Int} {r2 r4 : List Value} {x : Ev} (hx : l[i]? = some x) (hl : l.length ≤ 1000000) (hn1 : l.length = n1) (hr : r2 = flRow 3 (idxs (marks (rateP t u L) l i) 0)) (hn : n = (idxs (marks (rateP t u L) l i) 0).length) (hq : q = none → r2 = [])
    (hf : rateP t u L (l.take i) x = false) (hv : v = nextOf t (lat allq (l.take (i + 1)))) (hvk : K.i64 v) (ho : OwnAt r4 L (l.take (i + 1))) (hnc : n ≤ 9223372036854775807 ∧ c ≤ 9223372036854775807) :
    (((i : Int) + 1) ≤ 9223372036854775807 ∧ ((n ≤ 9223372036854775807 ∧ c ≤ 9223372036854775807) ∧ (IntKind.i64.min ≤ ((i : Int) + 1) ∧ ((i : Int) + 1) ≤ IntKind.i64.max) ∧ (K.i64 v) ∧
      (ratInv t u L l (q.map fun p => p.add 0) n ((i : Int) + 1) v r2 r4 ∧ ((n1 : Int) - ((i : Int) + 1)).toNat < ((n1 : Int) - (i : Int)).toNat))) := by
  have hi := (List.getElem?_eq_some_iff.1 hx).1
  have e := marks_miss (f := rateP t u L) hx hf
  rw [map_add0]
  exact ⟨by omega, hnc, k64 (by omega) (by omega), hvk, ⟨i + 1, by omega, by omega, hv, by rw [e]; exact hr, by rw [e]; exact hn, hq, ho⟩, by omega⟩

def aRat_pre (a b c d s t u : Int) (p : Option Addr) (n cc : Nat) (p1 : Option Addr) (n1 c1 : Nat) (m : Mem) : Prop := (Globs m glSp ∧ n1 ≤ 1000000) ∧ ∃ L l, JobsAt m p n L ∧ EvsAt m p1 n1 l
def aRat_post (a b c d s t u : Int) (p : Option Addr) (n cc : Nat) (p1 : Option Addr) (n1 c1 : Nat) (m : Mem) (q : Option Addr) (n2 c2 : Nat) (z : Int) : Prop := ∀ L l, JobsAt m p n L → EvsAt m p1 n1 l → z = auE a b c d t u L l ∧ RowM m q (flRow 3 (auI a b c d t u L l (rateP t u L))) ∧ n2 = (auI a b c d t u L l (rateP t u L)).length
def aRat : Sp := { args := [.i .i64, .i .i64, .i .i64, .i .i64, .i .u64, .i .i64, .i .i64, .sl, .sl], grp := [some 8, none], res := [.sl, .i .i64], rgrp := [none, none], fn := 11, spec := fun a0 a1 a2 a3 a4 a5 a6 a7 a8 a9 a10 a11 a12 => (aRat_pre a0 a1 a2 a3 a4 a5 a6 a7 a8 a9 a10 a11 a12, aRat_post a0 a1 a2 a3 a4 a5 a6 a7 a8 a9 a10 a11 a12) }
def aRat_VC : Prop := ∀ m : Mem, ∀ x0 : Int, IntKind.i64.min ≤ x0 → x0 ≤ IntKind.i64.max → ∀ x1 : Int, IntKind.i64.min ≤ x1 → x1 ≤ IntKind.i64.max → ∀ x2 : Int, IntKind.i64.min ≤ x2 → x2 ≤ IntKind.i64.max → ∀ x3 : Int, IntKind.i64.min ≤ x3 → x3 ≤ IntKind.i64.max → ∀ x4 : Int, IntKind.u64.min ≤ x4 → x4 ≤ IntKind.u64.max → ∀ x5 : Int, IntKind.i64.min ≤ x5 → x5 ≤ IntKind.i64.max → ∀ x6 : Int, IntKind.i64.min ≤ x6 → x6 ≤ IntKind.i64.max → ∀ (p0 : Option Addr) (n0 c0 : Nat), n0 ≤ 9223372036854775807 → c0 ≤ 9223372036854775807 → ∀ (p1 : Option Addr) (n1 c1 : Nat), n1 ≤ 9223372036854775807 → c1 ≤ 9223372036854775807 → aRat_pre x0 x1 x2 x3 x4 x5 x6 p0 n0 c0 p1 n1 c1 m →
 ((n0 ≤ 9223372036854775807 ∧ c0 ≤ 9223372036854775807) ∧ cChk_pre x0 x1 x2 x3 x4 x5 x6 (p0.map fun p => p.add 0) n0 c0 m ∧ ∀ m1 : Mem, MemSub m m1 → ∀ x11 : Int, IntKind.i64.min ≤ x11 → x11 ≤ IntKind.i64.max → cChk_post x0 x1 x2 x3 x4 x5 x6 (p0.map fun p => p.add 0) n0 c0 m1 x11 →
 ((x11 ≠ 0 →
 ((K.i64 x11) ∧ aRat_post x0 x1 x2 x3 x4 x5 x6 p0 n0 c0 p1 n1 c1 m1 none 0 0 x11)) ∧
 (x11 = 0 →
 ((n1 ≤ 9223372036854775807 ∧ c1 ≤ 9223372036854775807) ∧ tChk_pre (p1.map fun p => p.add 0) n1 c1 (n0 : Int) m1 ∧ ∀ m2 : Mem, MemSub m1 m2 → ∀ x12 : Int, IntKind.i64.min ≤ x12 → x12 ≤ IntKind.i64.max → ∀ x13 : Int, IntKind.i64.min ≤ x13 → x13 ≤ IntKind.i64.max → tChk_post (p1.map fun p => p.add 0) n1 c1 (n0 : Int) m2 x12 x13 →
 ((x13 ≠ 0 →
 ((K.i64 x13) ∧ aRat_post x0 x1 x2 x3 x4 x5 x6 p0 n0 c0 p1 n1 c1 m2 none 0 0 x13)) ∧
 (x13 = 0 →
 ((0 ≤ (n0 : Int) ∧ (n0 : Int) ≤ 1000000) ∧ ∀ (p2 : Addr) (r0 : List Value), r0 = repl ((n0 : Int)).toNat [(Value.int IntKind.i64 0), (Value.int IntKind.i64 0), (Value.int IntKind.i64 0)] → (∃ F3 : Int → List Value → Prop × Nat, ((K.i64 0) ∧ (F3 0 r0).1) ∧
 ∀ x14 : Int, IntKind.i64.min ≤ x14 → x14 ≤ IntKind.i64.max → ∀ r1 : List Value, (F3 x14 r1).1 →
 ((x14 < (n0 : Int) →
 (0 ≤ x14 ∧ (p0 ≠ none ∧ (HasI m2 p0 (0 + (x14 * 30)) 30 ∧ (0 ≤ x14 ∧ ((some p2) ≠ none ∧ (∃ x15 : Int, cellI m2 p0 ((0 + (x14 * 30)) + 21) = some (Value.int IntKind.i64 x15) ∧ (K.i64 x15) ∧ (∃ x16 : Int, cellI m2 p0 ((0 + (x14 * 30)) + 22) = some (Value.int IntKind.i64 x16) ∧ (K.i64 x16) ∧ ((0 ≤ (0 + (x14 * 3)) ∧ (0 + (x14 * 3)) + 2 ≤ (r1.length : Int)) ∧ ∀ r2 : List Value, r2 = lsetAll r1 ((0 + (x14 * 3))).toNat [(Value.int IntKind.i64 x15), (Value.int IntKind.i64 x16)] → ((x14 + 1) ≤ 9223372036854775807 ∧ ((IntKind.i64.min ≤ (x14 + 1) ∧ (x14 + 1) ≤ IntKind.i64.max) ∧ ((F3 (x14 + 1) r2).1 ∧ (F3 (x14 + 1) r2).2 < (F3 x14 r1).2)))))))))))) ∧
 ((n0 : Int) ≤ x14 →
 (∃ F4 : Option Addr → Nat → Nat → Int → Int → List Value → List Value → Prop × Nat, ((K.i64 0) ∧ (K.i64 0) ∧ (F4 none 0 0 0 0 [] r1).1) ∧
 ∀ (p3 : Option Addr) (n3 c3 : Nat), n3 ≤ 9223372036854775807 → c3 ≤ 9223372036854775807 → ∀ x17 : Int, IntKind.i64.min ≤ x17 → x17 ≤ IntKind.i64.max → ∀ x18 : Int, IntKind.i64.min ≤ x18 → x18 ≤ IntKind.i64.max → ∀ r2 : List Value, ∀ r3 : List Value, (F4 p3 n3 c3 x17 x18 r2 r3).1 →
 ((x17 < (n1 : Int) →
 (0 ≤ x17 ∧ (p1 ≠ none ∧ (HasI m2 p1 (0 + (x17 * 8)) 8 ∧ (∃ x19 : Int, cellI m2 p1 (0 + (x17 * 8)) = some (Value.int IntKind.i64 x19) ∧ (K.i64 x19) ∧ ((x19 ≠ 1 →
 ((x17 + 1) ≤ 9223372036854775807 ∧ ((n3 ≤ 9223372036854775807 ∧ c3 ≤ 9223372036854775807) ∧ (IntKind.i64.min ≤ (x17 + 1) ∧ (x17 + 1) ≤ IntKind.i64.max) ∧ (K.i64 x18) ∧ ((F4 (p3.map fun p => p.add 0) n3 c3 (x17 + 1) x18 r2 r3).1 ∧ (F4 (p3.map fun p => p.add 0) n3 c3 (x17 + 1) x18 r2 r3).2 < (F4 p3 n3 c3 x17 x18 r2 r3).2)))) ∧
 (x19 = 1 →
 (∃ x20 : Int, cellI m2 p1 ((0 + (x17 * 8)) + 1) = some (Value.int IntKind.i64 x20) ∧ (K.i64 x20) ∧ ((0 < x5 →
 ((-9223372036854775808 : Int) ≤ (x18 - x6) ∧ ((x18 - x6) ≤ 9223372036854775807 ∧ (∀ x21 : Int, x21 = (bif true then max x18 x20 else min x18 x20) → (K.i64 x21) ∧ ((x21 + x5) ≤ 9223372036854775807 ∧ (∃ x22 : Int, cellI m2 p1 ((0 + (x17 * 8)) + 2) = some (Value.int IntKind.i64 x22) ∧ (K.i64 x22) ∧ (0 ≤ x22 ∧ (x22 < (n0 : Int) ∧ ((some p2) ≠ none ∧ ((0 ≤ (0 + (x22 * 3)) ∧ (0 + (x22 * 3)) + 1 ≤ (r3.length : Int)) ∧ (∃ x23 : Int, rowI r3 (0 + (x22 * 3)) = some (Value.int IntKind.i64 x23) ∧ (K.i64 x23) ∧ ((0 < x23 →
 ((0 ≤ ((0 + (x22 * 3)) + 2) ∧ ((0 + (x22 * 3)) + 2) + 1 ≤ (r3.length : Int)) ∧ (∃ x24 : Int, rowI r3 ((0 + (x22 * 3)) + 2) = some (Value.int IntKind.i64 x24) ∧ (K.i64 x24) ∧ ((0 ≤ ((0 + (x22 * 3)) + 1) ∧ ((0 + (x22 * 3)) + 1) + 1 ≤ (r3.length : Int)) ∧ (∃ x25 : Int, rowI r3 ((0 + (x22 * 3)) + 1) = some (Value.int IntKind.i64 x25) ∧ (K.i64 x25) ∧ ((-9223372036854775808 : Int) ≤ (x24 - x25) ∧ ((x24 - x25) ≤ 9223372036854775807 ∧ ((0 ≤ ((0 + (x22 * 3)) + 2) ∧ ((0 + (x22 * 3)) + 2) + 1 ≤ (r3.length : Int)) ∧ (∀ x26 : Int, x26 = (bif true then max x24 x20 else min x24 x20) → (K.i64 x26) ∧ ((0 ≤ (0 + (x22 * 3)) ∧ (0 + (x22 * 3)) + 1 ≤ (r3.length : Int)) ∧ ((x26 + x23) ≤ 9223372036854775807 ∧ ((0 ≤ ((0 + (x22 * 3)) + 2) ∧ ((0 + (x22 * 3)) + 2) + 1 ≤ (r3.length : Int)) ∧ ∀ r4 : List Value, r4 = lsetAll r3 (((0 + (x22 * 3)) + 2)).toNat [(Value.int IntKind.i64 (x26 + x23))] → ((x20 < (x18 - x6) →
 ((2 * ((n3 : Int) + 1) * 16 ≤ 281474976710656) ∧ ∀ (p4 : Addr) (c4 : Nat) (r5 : List Value), r5 = r2 ++ [(Value.int IntKind.i64 3), (Value.int IntKind.i64 x17)] → (n3 : Int) + 1 ≤ (c4 : Int) → c4 ≤ 9223372036854775807 → ((x17 + 1) ≤ 9223372036854775807 ∧ (((Int.toNat ((n3 : Int) + 1)) ≤ 9223372036854775807 ∧ c4 ≤ 9223372036854775807) ∧ (IntKind.i64.min ≤ (x17 + 1) ∧ (x17 + 1) ≤ IntKind.i64.max) ∧ (K.i64 (x21 + x5)) ∧ ((F4 ((some p4).map fun p => p.add 0) (Int.toNat ((n3 : Int) + 1)) c4 (x17 + 1) (x21 + x5) r5 r4).1 ∧ (F4 ((some p4).map fun p => p.add 0) (Int.toNat ((n3 : Int) + 1)) c4 (x17 + 1) (x21 + x5) r5 r4).2 < (F4 p3 n3 c3 x17 x18 r2 r3).2))))) ∧
 ((x18 - x6) ≤ x20 →
 ((x20 < (x24 - x25) →
 ((2 * ((n3 : Int) + 1) * 16 ≤ 281474976710656) ∧ ∀ (p4 : Addr) (c4 : Nat) (r5 : List Value), r5 = r2 ++ [(Value.int IntKind.i64 3), (Value.int IntKind.i64 x17)] → (n3 : Int) + 1 ≤ (c4 : Int) → c4 ≤ 9223372036854775807 → ((x17 + 1) ≤ 9223372036854775807 ∧ (((Int.toNat ((n3 : Int) + 1)) ≤ 9223372036854775807 ∧ c4 ≤ 9223372036854775807) ∧ (IntKind.i64.min ≤ (x17 + 1) ∧ (x17 + 1) ≤ IntKind.i64.max) ∧ (K.i64 (x21 + x5)) ∧ ((F4 ((some p4).map fun p => p.add 0) (Int.toNat ((n3 : Int) + 1)) c4 (x17 + 1) (x21 + x5) r5 r4).1 ∧ (F4 ((some p4).map fun p => p.add 0) (Int.toNat ((n3 : Int) + 1)) c4 (x17 + 1) (x21 + x5) r5 r4).2 < (F4 p3 n3 c3 x17 x18 r2 r3).2))))) ∧
 ((x24 - x25) ≤ x20 →
 ((x17 + 1) ≤ 9223372036854775807 ∧ ((n3 ≤ 9223372036854775807 ∧ c3 ≤ 9223372036854775807) ∧ (IntKind.i64.min ≤ (x17 + 1) ∧ (x17 + 1) ≤ IntKind.i64.max) ∧ (K.i64 (x21 + x5)) ∧ ((F4 (p3.map fun p => p.add 0) n3 c3 (x17 + 1) (x21 + x5) r2 r4).1 ∧ (F4 (p3.map fun p => p.add 0) n3 c3 (x17 + 1) (x21 + x5) r2 r4).2 < (F4 p3 n3 c3 x17 x18 r2 r3).2))))))))))))))))))) ∧
 (x23 ≤ 0 →
 ((0 ≤ ((0 + (x22 * 3)) + 2) ∧ ((0 + (x22 * 3)) + 2) + 1 ≤ (r3.length : Int)) ∧ (∃ x24 : Int, rowI r3 ((0 + (x22 * 3)) + 2) = some (Value.int IntKind.i64 x24) ∧ (K.i64 x24) ∧ (∀ x25 : Int, x25 = (bif true then max x24 x20 else min x24 x20) → (K.i64 x25) ∧ ((0 ≤ (0 + (x22 * 3)) ∧ (0 + (x22 * 3)) + 1 ≤ (r3.length : Int)) ∧ ((-9223372036854775808 : Int) ≤ (x25 + x23) ∧ ((0 ≤ ((0 + (x22 * 3)) + 2) ∧ ((0 + (x22 * 3)) + 2) + 1 ≤ (r3.length : Int)) ∧ ∀ r4 : List Value, r4 = lsetAll r3 (((0 + (x22 * 3)) + 2)).toNat [(Value.int IntKind.i64 (x25 + x23))] → ((x20 < (x18 - x6) →
 ((2 * ((n3 : Int) + 1) * 16 ≤ 281474976710656) ∧ ∀ (p4 : Addr) (c4 : Nat) (r5 : List Value), r5 = r2 ++ [(Value.int IntKind.i64 3), (Value.int IntKind.i64 x17)] → (n3 : Int) + 1 ≤ (c4 : Int) → c4 ≤ 9223372036854775807 → ((x17 + 1) ≤ 9223372036854775807 ∧ (((Int.toNat ((n3 : Int) + 1)) ≤ 9223372036854775807 ∧ c4 ≤ 9223372036854775807) ∧ (IntKind.i64.min ≤ (x17 + 1) ∧ (x17 + 1) ≤ IntKind.i64.max) ∧ (K.i64 (x21 + x5)) ∧ ((F4 ((some p4).map fun p => p.add 0) (Int.toNat ((n3 : Int) + 1)) c4 (x17 + 1) (x21 + x5) r5 r4).1 ∧ (F4 ((some p4).map fun p => p.add 0) (Int.toNat ((n3 : Int) + 1)) c4 (x17 + 1) (x21 + x5) r5 r4).2 < (F4 p3 n3 c3 x17 x18 r2 r3).2))))) ∧
 ((x18 - x6) ≤ x20 →
 ((x17 + 1) ≤ 9223372036854775807 ∧ ((n3 ≤ 9223372036854775807 ∧ c3 ≤ 9223372036854775807) ∧ (IntKind.i64.min ≤ (x17 + 1) ∧ (x17 + 1) ≤ IntKind.i64.max) ∧ (K.i64 (x21 + x5)) ∧ ((F4 (p3.map fun p => p.add 0) n3 c3 (x17 + 1) (x21 + x5) r2 r4).1 ∧ (F4 (p3.map fun p => p.add 0) n3 c3 (x17 + 1) (x21 + x5) r2 r4).2 < (F4 p3 n3 c3 x17 x18 r2 r3).2)))))))))))))))))))))))) ∧
 (x5 ≤ 0 →
 (∀ x21 : Int, x21 = (bif true then max x18 x20 else min x18 x20) → (K.i64 x21) ∧ ((-9223372036854775808 : Int) ≤ (x21 + x5) ∧ (∃ x22 : Int, cellI m2 p1 ((0 + (x17 * 8)) + 2) = some (Value.int IntKind.i64 x22) ∧ (K.i64 x22) ∧ (0 ≤ x22 ∧ (x22 < (n0 : Int) ∧ ((some p2) ≠ none ∧ ((0 ≤ (0 + (x22 * 3)) ∧ (0 + (x22 * 3)) + 1 ≤ (r3.length : Int)) ∧ (∃ x23 : Int, rowI r3 (0 + (x22 * 3)) = some (Value.int IntKind.i64 x23) ∧ (K.i64 x23) ∧ ((0 < x23 →
 ((0 ≤ ((0 + (x22 * 3)) + 2) ∧ ((0 + (x22 * 3)) + 2) + 1 ≤ (r3.length : Int)) ∧ (∃ x24 : Int, rowI r3 ((0 + (x22 * 3)) + 2) = some (Value.int IntKind.i64 x24) ∧ (K.i64 x24) ∧ ((0 ≤ ((0 + (x22 * 3)) + 1) ∧ ((0 + (x22 * 3)) + 1) + 1 ≤ (r3.length : Int)) ∧ (∃ x25 : Int, rowI r3 ((0 + (x22 * 3)) + 1) = some (Value.int IntKind.i64 x25) ∧ (K.i64 x25) ∧ ((-9223372036854775808 : Int) ≤ (x24 - x25) ∧ ((x24 - x25) ≤ 9223372036854775807 ∧ ((0 ≤ ((0 + (x22 * 3)) + 2) ∧ ((0 + (x22 * 3)) + 2) + 1 ≤ (r3.length : Int)) ∧ (∀ x26 : Int, x26 = (bif true then max x24 x20 else min x24 x20) → (K.i64 x26) ∧ ((0 ≤ (0 + (x22 * 3)) ∧ (0 + (x22 * 3)) + 1 ≤ (r3.length : Int)) ∧ ((x26 + x23) ≤ 9223372036854775807 ∧ ((0 ≤ ((0 + (x22 * 3)) + 2) ∧ ((0 + (x22 * 3)) + 2) + 1 ≤ (r3.length : Int)) ∧ ∀ r4 : List Value, r4 = lsetAll r3 (((0 + (x22 * 3)) + 2)).toNat [(Value.int IntKind.i64 (x26 + x23))] → ((x20 < (x24 - x25) →
 ((2 * ((n3 : Int) + 1) * 16 ≤ 281474976710656) ∧ ∀ (p4 : Addr) (c4 : Nat) (r5 : List Value), r5 = r2 ++ [(Value.int IntKind.i64 3), (Value.int IntKind.i64 x17)] → (n3 : Int) + 1 ≤ (c4 : Int) → c4 ≤ 9223372036854775807 → ((x17 + 1) ≤ 9223372036854775807 ∧ (((Int.toNat ((n3 : Int) + 1)) ≤ 9223372036854775807 ∧ c4 ≤ 9223372036854775807) ∧ (IntKind.i64.min ≤ (x17 + 1) ∧ (x17 + 1) ≤ IntKind.i64.max) ∧ (K.i64 (x21 + x5)) ∧ ((F4 ((some p4).map fun p => p.add 0) (Int.toNat ((n3 : Int) + 1)) c4 (x17 + 1) (x21 + x5) r5 r4).1 ∧ (F4 ((some p4).map fun p => p.add 0) (Int.toNat ((n3 : Int) + 1)) c4 (x17 + 1) (x21 + x5) r5 r4).2 < (F4 p3 n3 c3 x17 x18 r2 r3).2))))) ∧
 ((x24 - x25) ≤ x20 →
 ((x17 + 1) ≤ 9223372036854775807 ∧ ((n3 ≤ 9223372036854775807 ∧ c3 ≤ 9223372036854775807) ∧ (IntKind.i64.min ≤ (x17 + 1) ∧ (x17 + 1) ≤ IntKind.i64.max) ∧ (K.i64 (x21 + x5)) ∧ ((F4 (p3.map fun p => p.add 0) n3 c3 (x17 + 1) (x21 + x5) r2 r4).1 ∧ (F4 (p3.map fun p => p.add 0) n3 c3 (x17 + 1) (x21 + x5) r2 r4).2 < (F4 p3 n3 c3 x17 x18 r2 r3).2))))))))))))))))) ∧
 (x23 ≤ 0 →
 ((0 ≤ ((0 + (x22 * 3)) + 2) ∧ ((0 + (x22 * 3)) + 2) + 1 ≤ (r3.length : Int)) ∧ (∃ x24 : Int, rowI r3 ((0 + (x22 * 3)) + 2) = some (Value.int IntKind.i64 x24) ∧ (K.i64 x24) ∧ (∀ x25 : Int, x25 = (bif true then max x24 x20 else min x24 x20) → (K.i64 x25) ∧ ((0 ≤ (0 + (x22 * 3)) ∧ (0 + (x22 * 3)) + 1 ≤ (r3.length : Int)) ∧ ((-9223372036854775808 : Int) ≤ (x25 + x23) ∧ ((0 ≤ ((0 + (x22 * 3)) + 2) ∧ ((0 + (x22 * 3)) + 2) + 1 ≤ (r3.length : Int)) ∧ ∀ r4 : List Value, r4 = lsetAll r3 (((0 + (x22 * 3)) + 2)).toNat [(Value.int IntKind.i64 (x25 + x23))] → ((x17 + 1) ≤ 9223372036854775807 ∧ ((n3 ≤ 9223372036854775807 ∧ c3 ≤ 9223372036854775807) ∧ (IntKind.i64.min ≤ (x17 + 1) ∧ (x17 + 1) ≤ IntKind.i64.max) ∧ (K.i64 (x21 + x5)) ∧ ((F4 (p3.map fun p => p.add 0) n3 c3 (x17 + 1) (x21 + x5) r2 r4).1 ∧ (F4 (p3.map fun p => p.add 0) n3 c3 (x17 + 1) (x21 + x5) r2 r4).2 < (F4 p3 n3 c3 x17 x18 r2 r3).2))))))))))))))))))))))))))))) ∧
 ((n1 : Int) ≤ x17 →
 (∀ m5 : Mem, MemSub m2 m5 → RowAt m5 p3 r2 → ((n3 ≤ 9223372036854775807 ∧ c3 ≤ 9223372036854775807) ∧ (K.i64 0) ∧ aRat_post x0 x1 x2 x3 x4 x5 x6 p0 n0 c0 p1 n1 c1 m5 (p3.map fun p => p.add 0) n3 c3 0)))))))))))))))
set_option maxHeartbeats 4000000 in
theorem aRat_vc : aRat_VC := by
  intro m x0 _ _ x1 _ _ x2 _ _ x3 _ _ x4 _ _ x5 k5 k5' x6 k6 k6' p0 n0 c0 hn0 hc0 p1 n1 c1 hn1 hc1 ⟨⟨hgl, hb⟩, L, l, hL, hl⟩
  have hLn := hL.1
  have hln := hl.1
  have ps : ∀ (m' : Mem) (q : Option Addr) (n2 c2 : Nat) (z : Int), MemSub m m' → z = auE x0 x1 x2 x3 x5 x6 L l → RowM m' q (flRow 3 (auI x0 x1 x2 x3 x5 x6 L l (rateP x5 x6 L))) → n2 = (auI x0 x1 x2 x3 x5 x6 L l (rateP x5 x6 L)).length → aRat_post x0 x1 x2 x3 x4 x5 x6 p0 n0 c0 p1 n1 c1 m' q n2 c2 z := by
    intro m' q n2 c2 z h e1 e2 e3 L' l' hL' hl'
    rw [← hL.uniq h hL', ← hl.uniq h hl']
    exact ⟨e1, e2, e3⟩
  have none_ : ∀ m' : Mem, RowM m' none [] := fun m' => ⟨(fun p h => by cases h), fun _ => rfl⟩
  refine ⟨⟨hn0, hc0⟩, ⟨hgl, L, by rw [map_add0]; exact hL⟩, fun m1 hm1 e ek1 ek2 he => ?_⟩
  rw [map_add0] at he
  have he : e = cfgE x0 x1 x2 x3 x5 x6 L := he L (hL.sub hm1)
  refine ⟨fun hne => ?_, fun h0 => ?_⟩
  · have ha : auE x0 x1 x2 x3 x5 x6 L l = e := by unfold auE; rw [← he, if_pos hne]
    have hi : auI x0 x1 x2 x3 x5 x6 L l (rateP x5 x6 L) = [] := by unfold auI; rw [ha, if_neg hne]
    exact ⟨⟨ek1, ek2⟩, ps m1 none 0 0 e hm1 ha.symm (by rw [hi]; exact none_ _) (by rw [hi]; rfl)⟩
  have hc : cfgE x0 x1 x2 x3 x5 x6 L = 0 := by rw [← he]; exact h0
  refine ⟨⟨hn1, hc1⟩, ?_⟩
  rw [map_add0]
  refine ⟨?_, fun m2 hm2 y yk1 yk2 g gk1 gk2 hg => ?_⟩
  · exact ⟨l, hl.sub hm1⟩
  have hg0 : (y, g) = trcE (n0 : Int) l := hg l (hl.sub hm1 |>.sub hm2)
  have hc0' : cfgE x0 x1 x2 x3 x5 x6 L = 0 := hc
  have ha : auE x0 x1 x2 x3 x5 x6 L l = g := by unfold auE; rw [if_neg (by rw [hc]; simp), hLn, ← hg0]
  refine ⟨fun hne => ?_, fun g0 => ?_⟩
  · have hi : auI x0 x1 x2 x3 x5 x6 L l (rateP x5 x6 L) = [] := by unfold auI; rw [ha, if_neg hne]
    exact ⟨⟨gk1, gk2⟩, ps m2 none 0 0 g (hm1.trans hm2) ha.symm (by rw [hi]; exact none_ _) (by rw [hi]; rfl)⟩
  rw [g0] at hg0 ha
  have hi : auI x0 x1 x2 x3 x5 x6 L l (rateP x5 x6 L) = idxs (marks (rateP x5 x6 L) l l.length) 0 := by unfold auI; rw [ha, if_pos rfl]
  obtain ⟨hjl, hev⟩ := trcE_ok hg0
  obtain ⟨h64, ⟨hT, hTau⟩, hjob⟩ := cfg_ok hc
  have hL2 := (hL.sub hm1).sub hm2
  have hl2 := (hl.sub hm1).sub hm2
  have kz : K.i64 0 := by constructor <;> decide
  refine ⟨⟨by omega, by omega⟩, fun p2 r0 hr0 => ?_⟩
  have hr0l : r0.length = 3 * n0 := by rw [hr0, repl_length]; simp; omega
  refine ⟨fun y r => (∃ i : Nat, y = i ∧ i ≤ n0 ∧ r.length = 3 * n0 ∧ (∀ j, j < n0 → r[3 * j + 2]? = some (.int .i64 0)) ∧ ∀ j J, j < i → L[j]? = some J → r[3 * j]? = some (.int .i64 J.pol.lim.t) ∧ r[3 * j + 1]? = some (.int .i64 J.pol.lim.tau), ((n0 : Int) - y).toNat), ⟨kz, 0, rfl, by omega, hr0l, fun j hj => ?_, fun j J hj => by omega⟩, ?_⟩
  · rw [hr0, repl_get _ _ _ (by simp; omega)]
    have : (3 * j + 2) % 3 = 2 := by omega
    simp [this]
  rintro y2 yk3 yk4 r1 ⟨i, rfl, hi0, hr1l, hz, hlim⟩
  refine ⟨fun hlt => ?_, fun hge => ?_⟩
  · obtain ⟨J, hJ, hat⟩ := hL2.at_ (i := (i : Int)) (by omega) hlt
    rw [Int.toNat_natCast] at hJ
    obtain ⟨⟨q1, q2⟩, _, _, hp⟩ := hat
    have e1 : (0 + (i : Int) * 3).toNat = 3 * i := by omega
    have hlen : 3 * i + [Value.int IntKind.i64 J.pol.lim.t, .int .i64 J.pol.lim.tau].length ≤ r1.length := by simp only [List.length_cons, List.length_nil]; omega
    refine ⟨by omega, q1, q2, by omega, by simp, _, hp.2.2.2.2.2.2.1.1, hp.2.2.2.2.2.2.1.2, _, hp.2.2.2.2.2.2.2.1.1, hp.2.2.2.2.2.2.2.1.2, ⟨by omega, by omega⟩, fun r2 hr2 => ⟨by omega, k64 (by omega) (by omega), ⟨i + 1, by omega, by omega, ?_, fun j hj => ?_, fun j T hj hT2 => ?_⟩, by first | omega | (simp only; omega)⟩⟩
    · rw [hr2, lsetAll_length]; exact hr1l
    · rw [hr2, e1, lset_get _ _ _ _ hlen, if_neg (by simp only [List.length_cons, List.length_nil]; omega)]
      exact hz j hj
    · rw [hr2, e1, lset_get _ _ _ _ hlen, lset_get _ _ _ _ hlen]
      simp only [List.length_cons, List.length_nil]
      by_cases e : j = i
      · subst e
        rw [hJ] at hT2; cases hT2
        rw [if_pos (by omega), if_pos (by omega)]
        have : 3 * j + 1 - 3 * j = 1 := by omega
        rw [this, Nat.sub_self]
        exact ⟨rfl, rfl⟩
      · rw [if_neg (by omega), if_neg (by omega)]
        exact hlim j T (by omega) hT2
  have hin : i = n0 := by omega
  subst hin
  have how : OwnAt r1 L (l.take 0) := ⟨by omega, fun j J hJ => by
    have hjl := (List.getElem?_eq_some_iff.1 hJ).1
    obtain ⟨g1, g2⟩ := hlim j J (by omega) hJ
    exact ⟨g1, g2, hz j (by omega)⟩⟩
  refine ⟨fun q n c y v r2 r3 => (ratInv x5 x6 L l q n y v r2 r3, ((n1 : Int) - y).toNat), ⟨kz, kz, 0, rfl, by omega, rfl, rfl, rfl, fun _ => rfl, how⟩, ?_⟩
  rintro p3 n3 c3 hn3 hc3 y3 yk5 yk6 v vk1 vk2 r2 r3 ⟨i, rfl, hil, hv, hr2, hn3', hq, hown⟩
  refine ⟨fun hlt => ?_, fun hge => ?_⟩
  rotate_left
  · intro m5 hm5 hrow
    have e : i = l.length := by omega
    subst e
    rw [map_add0]
    refine ⟨⟨hn3, hc3⟩, kz, ps m5 p3 n3 c3 0 ((hm1.trans hm2).trans hm5) ha.symm ?_ ?_⟩
    · rw [hi, ← hr2]; exact ⟨hrow, hq⟩
    · rw [hi]; exact hn3'
  obtain ⟨x, hx, hpn, hat, hhas⟩ := hl2.at_ (i := (i : Int)) (by omega) hlt
  rw [Int.toNat_natCast] at hx
  have hva := evErr_valid (hev i x hx)
  have htk : l.take (i + 1) = l.take i ++ [x] := by
    obtain ⟨hx1, hx2⟩ := List.getElem?_eq_some_iff.1 hx
    rw [← hx2, List.take_append_getElem hx1]
  have hb' : l.length ≤ 1000000 := by omega
  have hat0 := evP_time hva.1
  refine ⟨by omega, hpn, hhas, x.kind, hat.1.1, hat.1.2, fun hk => ?_, fun hk => ?_⟩
  · refine rat_miss (x := x) hx hb' hln hr2 hn3' hq (by simp [rateP, hk]) ?_ ⟨vk1, vk2⟩ ?_ ⟨hn3, hc3⟩
    · rw [htk, lat_snoc, if_neg (fun g => hk g.1), List.append_nil]; exact hv
    · rw [htk]; exact hown.skip hk
  have hj0 := evP_job hva.1 (by omega)
  have hj1 := hva.2.1 (by omega)
  obtain ⟨j, hj⟩ := Int.eq_ofNat_of_zero_le hj0
  have hjl2 : j < L.length := by omega
  have hJ : L[j]? = some L[j] := List.getElem?_eq_getElem hjl2
  generalize L[j] = J at hJ
  obtain ⟨o1, o2, o3⟩ := hown.2 j J hJ
  obtain ⟨_, hJT, hJTau⟩ := hjob J (List.mem_of_getElem? hJ)
  have hts : ∀ z ∈ l.take i, z.at_ ≤ 253402300799 := by
    intro z hz'
    obtain ⟨k, hk'⟩ := List.getElem?_of_mem (List.mem_of_mem_take hz')
    exact (evP_time (evErr_valid (hev k z hk')).1).2
  have htl : (l.take i).length ≤ 1000000 := by rw [List.length_take]; omega
  have hs1 := next_span (q := allq) hT htl hts
  have hs2 := next_span (q := jq j) hJT htl hts
  rw [← hv] at hs1
  have hvn : max v x.at_ + x5 = nextOf x5 (lat allq (l.take (i + 1))) := by
    rw [htk, lat_snoc, if_pos ⟨hk, rfl⟩, next_snoc, ← hv]
  generalize hw : nextOf J.pol.lim.t (lat (jq j) (l.take i)) = w at o3 hs2
  have hm1' := Int.le_max_left v x.at_
  have hm2' := Int.le_max_right v x.at_
  have hm3' : max v x.at_ ≤ 69000000000000000 := Int.max_le.2 ⟨hs1.2, by omega⟩
  have hm4' := Int.le_max_left w x.at_
  have hm5' := Int.le_max_right w x.at_
  have hm6' : max w x.at_ ≤ 69000000000000000 := Int.max_le.2 ⟨hs2.2, by omega⟩
  have hrate : rateP x5 x6 L (l.take i) x = ((decide (0 < x5) && decide (x.at_ < v - x6)) || (decide (0 < J.pol.lim.t) && decide (x.at_ < w - J.pol.lim.tau))) := by
    unfold rateP As.early
    rw [hj, Int.toNat_natCast, hJ]
    simp only [hk, decide_true, Bool.true_and]
    rw [← hv, hw]
  have hrl := hown.1
  have i0 : rowI r3 (0 + x.job * 3) = some (.int .i64 J.pol.lim.t) := rowI_to (rowI_at o1 rfl) (by omega)
  have i1 : rowI r3 ((0 + x.job * 3) + 1) = some (.int .i64 J.pol.lim.tau) := rowI_to (rowI_at o2 rfl) (by omega)
  have i2 : rowI r3 ((0 + x.job * 3) + 2) = some (.int .i64 w) := rowI_to (rowI_at o3 rfl) (by omega)
  have hst : ((0 + x.job * 3) + 2).toNat = 3 * j + 2 := by omega
  have hown' : ∀ r4 : List Value, r4 = lsetAll r3 ((0 + x.job * 3) + 2).toNat [.int .i64 (max w x.at_ + J.pol.lim.t)] → OwnAt r4 L (l.take (i + 1)) := by
    intro r4 hr4
    rw [htk, hr4, hst]
    exact hown.step hk hj hJ (by rw [hw])
  have kv : K.i64 (max v x.at_ + x5) := k64 (by omega) (by omega)
  have hit := fun r4 hr4 hf => rat_hit (v := max v x.at_ + x5) (r4 := r4) (x := x) hx hb' hln hr2 hn3' hf hvn kv (hown' r4 hr4)
  have mis := fun r4 hr4 hf => rat_miss (c := c3) (v := max v x.at_ + x5) (r4 := r4) (x := x) hx hb' hln hr2 hn3' hq hf hvn kv (hown' r4 hr4) ⟨hn3, hc3⟩
  refine ⟨x.at_, hat.2.1.1, hat.2.1.2, fun h5 => ⟨by omega, by omega, fun z hz' => ?_⟩, fun h5 z hz' => ?_⟩
  · simp only [cond_true] at hz'
    subst hz'
    refine ⟨k64 (by omega) (by omega), by omega, x.job, hat.2.2.1.1, hat.2.2.1.2, by omega, by omega, by simp, ⟨by omega, by omega⟩, _, i0, k64 (by omega) (by omega), fun hp => ⟨⟨by omega, by omega⟩, _, i2, k64 (by omega) (by omega), ⟨by omega, by omega⟩, _, i1, k64 (by omega) (by omega), by omega, by omega, ⟨by omega, by omega⟩, fun z2 hz2 => ?_⟩, fun hp => ⟨⟨by omega, by omega⟩, _, i2, k64 (by omega) (by omega), fun z2 hz2 => ?_⟩⟩
    · simp only [cond_true] at hz2
      subst hz2
      refine ⟨k64 (by omega) (by omega), ⟨by omega, by omega⟩, by omega, ⟨by omega, by omega⟩, fun r4 hr4 => ⟨fun hA => ?_, fun hA => ⟨fun hB => ?_, fun hB => ?_⟩⟩⟩
      · exact hit r4 hr4 (by rw [hrate]; simp [h5, hA])
      · exact hit r4 hr4 (by rw [hrate]; simp [hp, hB])
      · exact mis r4 hr4 (by rw [hrate]; simp; exact ⟨fun _ => hA, fun _ => hB⟩)
    · simp only [cond_true] at hz2
      subst hz2
      refine ⟨k64 (by omega) (by omega), ⟨by omega, by omega⟩, by omega, ⟨by omega, by omega⟩, fun r4 hr4 => ⟨fun hA => ?_, fun hA => ?_⟩⟩
      · exact hit r4 hr4 (by rw [hrate]; simp [h5, hA])
      · exact mis r4 hr4 (by rw [hrate]; simp; exact ⟨fun _ => hA, fun h => by omega⟩)
  · simp only [cond_true] at hz'
    subst hz'
    refine ⟨k64 (by omega) (by omega), by omega, x.job, hat.2.2.1.1, hat.2.2.1.2, by omega, by omega, by simp, ⟨by omega, by omega⟩, _, i0, k64 (by omega) (by omega), fun hp => ⟨⟨by omega, by omega⟩, _, i2, k64 (by omega) (by omega), ⟨by omega, by omega⟩, _, i1, k64 (by omega) (by omega), by omega, by omega, ⟨by omega, by omega⟩, fun z2 hz2 => ?_⟩, fun hp => ⟨⟨by omega, by omega⟩, _, i2, k64 (by omega) (by omega), fun z2 hz2 => ?_⟩⟩
    · simp only [cond_true] at hz2
      subst hz2
      refine ⟨k64 (by omega) (by omega), ⟨by omega, by omega⟩, by omega, ⟨by omega, by omega⟩, fun r4 hr4 => ⟨fun hB => ?_, fun hB => ?_⟩⟩
      · exact hit r4 hr4 (by rw [hrate]; simp [hp, hB])
      · exact mis r4 hr4 (by rw [hrate]; simp; exact ⟨fun h => by omega, fun _ => hB⟩)
    · simp only [cond_true] at hz2
      subst hz2
      refine ⟨k64 (by omega) (by omega), ⟨by omega, by omega⟩, by omega, ⟨by omega, by omega⟩, fun r4 hr4 => ?_⟩
      exact mis r4 hr4 (by rw [hrate]; simp; exact ⟨fun h => by omega, fun h => by omega⟩)
theorem aRat_pg : ∀ m, forallF aRat.args aRat.spec fun r => r.1 m → GlobsAt m [] := fun m a b c d s t u p n cc p1 n1 c1 h => trivial
theorem aRat_ok : SpOk Tryz.prog aRat :=
  con_okZ [] [] [] rfl (sps_of [cChk, tChk] ⟨cChk_ok, ⟨tChk_ok, trivial⟩⟩ rfl) (tab_ok _ [⟨(44, 6), [], [], [], [2]⟩, ⟨(29, 3), [(4, 2, .i .i64)], [], [(7, 39)], [2]⟩]) 1000 aRat _ rfl rfl aRat_pg (Eq.mp (show aRat_VC = _ by kernel_rfl) aRat_vc)

end Go.Proofs.YtfpfagmmdiohbaaGreatDoor.Vc
set_option linter.unusedVariables false
set_option linter.unusedSimpArgs false
set_option linter.unusedVariables false
set_option linter.unusedSimpArgs false
namespace Go.Proofs.YtfpfagmmdiohbaaGreatDoor.Vc

open As
def jobq (j : Int) (x : Ev) : Bool := if j = -1 then true else decide (x.job = j)
theorem jobq_all : jobq (-1) = allq := rfl
theorem jobq_one {j : Int} (h : 0 ≤ j) : jobq j = jq j := by
  funext x
  unfold jobq jq
  rw [if_neg (by omega)]
theorem early_keep {T Tau : Int} {L : List Int} {x : Int} (hT : 0 ≤ T) (hTau : 0 ≤ Tau) (hL : ∀ v ∈ L, 0 ≤ v ∧ v ≤ x) (hx : 0 ≤ x) : As.early T Tau L x = !keepR T Tau x 1 L.reverse := by
  have h1 := early_iff hT hTau hL hx
  have h2 := keep_barred T Tau x L
  cases hk : keepR T Tau x 1 L.reverse with
  | true =>
    have := h2.1 hk
    cases he : As.early T Tau L x with
    | true => exact (this (h1.1 he)).elim
    | false => rfl
  | false =>
    cases he : As.early T Tau L x with
    | true => rfl
    | false =>
      have hb : ¬ barred T Tau L x := fun b => by have := h1.2 b; rw [he] at this; cases this
      have := h2.2 hb
      rw [hk] at this; cases this
/-- The mark of the document. -/
def rateD (t u : Int) (L : List JobR) (p : List Ev) (x : Ev) : Bool :=
  decide (x.kind = 1) && (!keepR t u x.at_ 1 (lat (jobq (-1)) p).reverse || match L[x.job.toNat]? with | some J => !keepR J.pol.lim.t J.pol.lim.tau x.at_ 1 (lat (jobq x.job) p).reverse | none => false)
theorem rate_same {a b c d t u : Int} {L : List JobR} {l : List Ev} (hc : cfgE a b c d t u L = 0) (hev : ∀ i x, l[i]? = some x → evErr (L.length : Int) (l.take i) x = 0) (n : Nat) : marks (rateP t u L) l n = marks (rateD t u L) l n := by
  obtain ⟨h64, ⟨hT, hTau⟩, hjob⟩ := cfg_ok hc
  apply marks_congr
  intro i x hx
  have hva := evErr_valid (hev i x hx)
  have hat0 := evP_time hva.1
  have hmem : ∀ (q : Ev → Bool) (v : Int), v ∈ lat q (l.take i) → 0 ≤ v ∧ v ≤ x.at_ := by
    intro q v hv
    obtain ⟨z, hz, _, e⟩ := lat_mem hv
    obtain ⟨k, hk⟩ := List.getElem?_of_mem hz
    have hki : k < i := by
      have h1 := (List.getElem?_eq_some_iff.1 hk).1
      rw [List.length_take] at h1; omega
    rw [List.getElem?_take_of_lt hki] at hk
    have h1 := evP_time (evErr_valid (hev k z hk)).1
    have h2 := times_up hev (i - k) k z x hk (by rw [show k + (i - k) = i by omega]; exact hx)
    omega
  unfold rateP rateD
  by_cases hk : x.kind = 1
  · simp only [hk, decide_true, Bool.true_and]
    have hj0 := evP_job hva.1 (by omega)
    rw [early_keep hT.1 hTau.1 (hmem allq) hat0.1, jobq_all, jobq_one hj0]
    congr 1
    cases hJ : L[x.job.toNat]? with
    | none => rfl
    | some J =>
      obtain ⟨_, h1, h2⟩ := hjob J (List.mem_of_getElem? hJ)
      exact early_keep h1.1 h2.1 (hmem (jq x.job)) hat0.1
  · simp [hk]

def rKep_pre (p : Option Addr) (n c : Nat) (i t u j : Int) (m : Mem) : Prop := (0 ≤ i ∧ i < (n : Int) ∧ n ≤ 1000000 ∧ (0 ≤ t ∧ t ≤ 68719476736) ∧ (0 ≤ u ∧ u ≤ 68719476736)) ∧ ∃ l, EvsAt m p n l ∧ ∀ x ∈ l, 0 ≤ x.at_ ∧ x.at_ ≤ 253402300799
def rKep_post (p : Option Addr) (n c : Nat) (i t u j : Int) (m : Mem) (b : Bool) : Prop := ∀ l x, EvsAt m p n l → l[i.toNat]? = some x → b = keepR t u x.at_ 1 (lat (jobq j) (l.take i.toNat)).reverse
def rKep : Sp := { args := [.sl, .i .i64, .i .i64, .i .i64, .i .i64], grp := [none, none, some 2, none], res := [.b], rgrp := [none], fn := 39, spec := fun a0 a1 a2 a3 a4 a5 a6 => (rKep_pre a0 a1 a2 a3 a4 a5 a6, rKep_post a0 a1 a2 a3 a4 a5 a6) }
def rKep_VC : Prop := ∀ m : Mem, ∀ (p0 : Option Addr) (n0 c0 : Nat), n0 ≤ 9223372036854775807 → c0 ≤ 9223372036854775807 → ∀ x2 : Int, IntKind.i64.min ≤ x2 → x2 ≤ IntKind.i64.max → ∀ x3 : Int, IntKind.i64.min ≤ x3 → x3 ≤ IntKind.i64.max → ∀ x4 : Int, IntKind.i64.min ≤ x4 → x4 ≤ IntKind.i64.max → ∀ x5 : Int, IntKind.i64.min ≤ x5 → x5 ≤ IntKind.i64.max → rKep_pre p0 n0 c0 x2 x3 x4 x5 m →
 ((-9223372036854775808 : Int) ≤ (x2 - 1) ∧ (∃ F1 : Bool → Int → Int → Prop × Nat, ((K.i64 1) ∧ (IntKind.i64.min ≤ (x2 - 1) ∧ (x2 - 1) ≤ IntKind.i64.max) ∧ (F1 false 1 (x2 - 1)).1) ∧
 ∀ b0 : Bool, ∀ x6 : Int, IntKind.i64.min ≤ x6 → x6 ≤ IntKind.i64.max → ∀ x7 : Int, IntKind.i64.min ≤ x7 → x7 ≤ IntKind.i64.max → (F1 b0 x6 x7).1 →
 ((0 ≤ x7 →
 (x7 < (n0 : Int) ∧ (p0 ≠ none ∧ (HasI m p0 (0 + (x7 * 8)) 1 ∧ (∃ x8 : Int, cellI m p0 (0 + (x7 * 8)) = some (Value.int IntKind.i64 x8) ∧ (K.i64 x8) ∧ ((x8 ≠ 1 →
 ((K.i64 x6) ∧ (IntKind.i64.min ≤ (x7 - 1) ∧ (x7 - 1) ≤ IntKind.i64.max) ∧ ((F1 b0 x6 (x7 - 1)).1 ∧ (F1 b0 x6 (x7 - 1)).2 < (F1 b0 x6 x7).2))) ∧
 (x8 = 1 →
 ((x5 ≠ (-1 : Int) →
 (x7 < (n0 : Int) ∧ (p0 ≠ none ∧ (HasI m p0 ((0 + (x7 * 8)) + 2) 1 ∧ (∃ x9 : Int, cellI m p0 ((0 + (x7 * 8)) + 2) = some (Value.int IntKind.i64 x9) ∧ (K.i64 x9) ∧ ((x9 ≠ x5 →
 ((K.i64 x6) ∧ (IntKind.i64.min ≤ (x7 - 1) ∧ (x7 - 1) ≤ IntKind.i64.max) ∧ ((F1 b0 x6 (x7 - 1)).1 ∧ (F1 b0 x6 (x7 - 1)).2 < (F1 b0 x6 x7).2))) ∧
 (x9 = x5 →
 ((-9223372036854775808 : Int) ≤ (x6 * x3) ∧ ((x6 * x3) ≤ 9223372036854775807 ∧ (0 ≤ x2 ∧ (x2 < (n0 : Int) ∧ (p0 ≠ none ∧ (HasI m p0 ((0 + (x2 * 8)) + 1) 1 ∧ (∃ x10 : Int, cellI m p0 ((0 + (x2 * 8)) + 1) = some (Value.int IntKind.i64 x10) ∧ (K.i64 x10) ∧ (x7 < (n0 : Int) ∧ (p0 ≠ none ∧ (HasI m p0 ((0 + (x7 * 8)) + 1) 1 ∧ (∃ x11 : Int, cellI m p0 ((0 + (x7 * 8)) + 1) = some (Value.int IntKind.i64 x11) ∧ (K.i64 x11) ∧ ((-9223372036854775808 : Int) ≤ (x10 - x11) ∧ ((x10 - x11) ≤ 9223372036854775807 ∧ ((-9223372036854775808 : Int) ≤ ((x10 - x11) + x4) ∧ (((x10 - x11) + x4) ≤ 9223372036854775807 ∧ ((((x10 - x11) + x4) < (x6 * x3) →
 (rKep_post p0 n0 c0 x2 x3 x4 x5 m false)) ∧
 ((x6 * x3) ≤ ((x10 - x11) + x4) →
 ((x6 + 1) ≤ 9223372036854775807 ∧ ((IntKind.i64.min ≤ (x6 + 1) ∧ (x6 + 1) ≤ IntKind.i64.max) ∧ (IntKind.i64.min ≤ (x7 - 1) ∧ (x7 - 1) ≤ IntKind.i64.max) ∧ ((F1 b0 (x6 + 1) (x7 - 1)).1 ∧ (F1 b0 (x6 + 1) (x7 - 1)).2 < (F1 b0 x6 x7).2))))))))))))))))))))))))))) ∧
 (x5 = (-1 : Int) →
 ((-9223372036854775808 : Int) ≤ (x6 * x3) ∧ ((x6 * x3) ≤ 9223372036854775807 ∧ (0 ≤ x2 ∧ (x2 < (n0 : Int) ∧ (p0 ≠ none ∧ (HasI m p0 ((0 + (x2 * 8)) + 1) 1 ∧ (∃ x9 : Int, cellI m p0 ((0 + (x2 * 8)) + 1) = some (Value.int IntKind.i64 x9) ∧ (K.i64 x9) ∧ (x7 < (n0 : Int) ∧ (p0 ≠ none ∧ (HasI m p0 ((0 + (x7 * 8)) + 1) 1 ∧ (∃ x10 : Int, cellI m p0 ((0 + (x7 * 8)) + 1) = some (Value.int IntKind.i64 x10) ∧ (K.i64 x10) ∧ ((-9223372036854775808 : Int) ≤ (x9 - x10) ∧ ((x9 - x10) ≤ 9223372036854775807 ∧ ((-9223372036854775808 : Int) ≤ ((x9 - x10) + x4) ∧ (((x9 - x10) + x4) ≤ 9223372036854775807 ∧ ((((x9 - x10) + x4) < (x6 * x3) →
 (rKep_post p0 n0 c0 x2 x3 x4 x5 m false)) ∧
 ((x6 * x3) ≤ ((x9 - x10) + x4) →
 ((x6 + 1) ≤ 9223372036854775807 ∧ ((IntKind.i64.min ≤ (x6 + 1) ∧ (x6 + 1) ≤ IntKind.i64.max) ∧ (IntKind.i64.min ≤ (x7 - 1) ∧ (x7 - 1) ≤ IntKind.i64.max) ∧ ((F1 b0 (x6 + 1) (x7 - 1)).1 ∧ (F1 b0 (x6 + 1) (x7 - 1)).2 < (F1 b0 x6 x7).2))))))))))))))))))))))))))))) ∧
 (x7 < 0 →
 (rKep_post p0 n0 c0 x2 x3 x4 x5 m true)))))
set_option maxHeartbeats 4000000 in
theorem rKep_vc : rKep_VC := by
  intro m p n c hn hc i k1 k2 t k3 k4 u k5 k6 j k7 k8 ⟨⟨hi0, hi1, hb, hT, hTau⟩, l, hl, hts⟩
  have hln := hl.1
  obtain ⟨x, hx, hpn, hat, hhas⟩ := hl.at_ hi0 hi1
  obtain ⟨i, rfl⟩ := Int.eq_ofNat_of_zero_le hi0
  rw [Int.toNat_natCast] at hx
  have hxt := hts x (List.mem_of_getElem? hx)
  have ps : ∀ b : Bool, b = keepR t u x.at_ 1 (lat (jobq j) (l.take i)).reverse → rKep_post p n c (i : Int) t u j m b := by
    intro b h l' x' hl' hx'
    rw [Int.toNat_natCast] at hx' ⊢
    rw [← hl.uniq (memSub_refl m) hl'] at hx' ⊢
    rw [hx] at hx'; cases hx'
    exact h
  have hxh : HasI m p ((0 + (i : Int) * 8) + 1) 1 := hat.2.1.has
  refine ⟨by omega, fun b y z => (∃ k : Nat, z = (k : Int) - 1 ∧ k ≤ i ∧ 1 ≤ y ∧ y ≤ (i : Int) - k + 1 ∧ keepR t u x.at_ y (lat (jobq j) (l.take k)).reverse = keepR t u x.at_ 1 (lat (jobq j) (l.take i)).reverse, (z + 1).toNat), ⟨by constructor <;> decide, k64 (by omega) (by omega), i, rfl, by omega, by omega, by omega, rfl⟩, ?_⟩
  rintro b0 y ky1 ky2 z kz1 kz2 ⟨k, rfl, hki, hy1, hy2, hkeep⟩
  refine ⟨fun h0 => ?_, fun h0 => ?_⟩
  · obtain ⟨k, rfl⟩ : ∃ k', k = k' + 1 := ⟨k - 1, by omega⟩
    have ez : ((k + 1 : Nat) : Int) - 1 = (k : Int) := by omega
    rw [ez] at *
    obtain ⟨w, hw, _, hwt, hwh⟩ := hl.at_ (i := (k : Int)) (by omega) (by omega)
    rw [Int.toNat_natCast] at hw
    have hwl := hts w (List.mem_of_getElem? hw)
    have htk : l.take (k + 1) = l.take k ++ [w] := by
      obtain ⟨hx1, hx2⟩ := List.getElem?_eq_some_iff.1 hw
      rw [← hx2, List.take_append_getElem hx1]
    rw [htk, lat_snoc] at hkeep
    have hm1 : 0 ≤ y * t := Int.mul_nonneg (by omega) hT.1
    have hm2 : y * t ≤ 1000001 * 68719476736 := Int.mul_le_mul (by omega) hT.2 hT.1 (by omega)
    have skip : ¬ (w.kind = 1 ∧ jobq j w = true) → (K.i64 y) ∧ (IntKind.i64.min ≤ ((k : Int) - 1) ∧ ((k : Int) - 1) ≤ IntKind.i64.max) ∧ ((∃ k' : Nat, (k : Int) - 1 = (k' : Int) - 1 ∧ k' ≤ i ∧ 1 ≤ y ∧ y ≤ (i : Int) - k' + 1 ∧ keepR t u x.at_ y (lat (jobq j) (l.take k')).reverse = keepR t u x.at_ 1 (lat (jobq j) (l.take i)).reverse) ∧ ((k : Int) - 1 + 1).toNat < ((k : Int) + 1).toNat) := by
      intro hne
      rw [if_neg hne, List.append_nil] at hkeep
      exact ⟨⟨ky1, ky2⟩, k64 (by omega) (by omega), ⟨k, rfl, by omega, hy1, by omega, hkeep⟩, by omega⟩
    have next : (w.kind = 1 ∧ jobq j w = true) → (((x.at_ - w.at_) + u) < (y * t) → rKep_post p n c (i : Int) t u j m false) ∧ ((y * t) ≤ ((x.at_ - w.at_) + u) → ((y + 1) ≤ 9223372036854775807 ∧ ((IntKind.i64.min ≤ (y + 1) ∧ (y + 1) ≤ IntKind.i64.max) ∧ (IntKind.i64.min ≤ ((k : Int) - 1) ∧ ((k : Int) - 1) ≤ IntKind.i64.max) ∧ ((∃ k' : Nat, (k : Int) - 1 = (k' : Int) - 1 ∧ k' ≤ i ∧ 1 ≤ (y + 1) ∧ (y + 1) ≤ (i : Int) - k' + 1 ∧ keepR t u x.at_ (y + 1) (lat (jobq j) (l.take k')).reverse = keepR t u x.at_ 1 (lat (jobq j) (l.take i)).reverse) ∧ ((k : Int) - 1 + 1).toNat < ((k : Int) + 1).toNat)))) := by
      intro he
      rw [if_pos he, List.reverse_append, List.reverse_singleton, List.singleton_append, keepR] at hkeep
      refine ⟨fun hA => ps false ?_, fun hB => ⟨by omega, k64 (by omega) (by omega), k64 (by omega) (by omega), ⟨k, rfl, by omega, by omega, by omega, ?_⟩, by omega⟩⟩
      · rw [if_pos hA] at hkeep; exact hkeep
      · rw [if_neg (by omega)] at hkeep; exact hkeep
    refine ⟨by omega, hpn, hwt.1.has, w.kind, hwt.1.1, hwt.1.2, fun hk => skip (fun g => hk g.1), fun hk => ⟨fun hj => ⟨by omega, hpn, hwt.2.2.1.has, w.job, hwt.2.2.1.1, hwt.2.2.1.2, fun hne => skip (fun g => ?_), fun he => ?_⟩, fun hj => ?_⟩⟩
    · have := g.2
      unfold jobq at this
      rw [if_neg hj] at this
      exact hne (of_decide_eq_true this)
    · have hq : jobq j w = true := by unfold jobq; rw [if_neg hj, he]; exact decide_eq_true rfl
      exact ⟨by omega, by omega, by omega, by omega, hpn, hxh, x.at_, hat.2.1.1, hat.2.1.2, by omega, hpn, hwt.2.1.has, w.at_, hwt.2.1.1, hwt.2.1.2, by omega, by omega, by omega, by omega, next ⟨hk, hq⟩⟩
    · have hq : jobq j w = true := by unfold jobq; rw [if_pos hj]
      exact ⟨by omega, by omega, by omega, by omega, hpn, hxh, x.at_, hat.2.1.1, hat.2.1.2, by omega, hpn, hwt.2.1.has, w.at_, hwt.2.1.1, hwt.2.1.2, by omega, by omega, by omega, by omega, next ⟨hk, hq⟩⟩
  · have : k = 0 := by omega
    subst this
    exact ps true hkeep
theorem rKep_pg : ∀ m, forallF rKep.args rKep.spec fun r => r.1 m → GlobsAt m [] := fun m a b c d e f g h => trivial
theorem rKep_ok : SpOk Tryz.prog rKep :=
  con_ok (sps_of [] trivial rfl) (tab_ok _ [⟨(57, 3), [], [], [], []⟩]) 1000 rKep _ rfl rfl (Eq.mp (show rKep_VC = _ by kernel_rfl) rKep_vc)

end Go.Proofs.YtfpfagmmdiohbaaGreatDoor.Vc
set_option linter.unusedVariables false
set_option linter.unusedSimpArgs false
set_option linter.unusedVariables false
set_option linter.unusedSimpArgs false
namespace Go.Proofs.YtfpfagmmdiohbaaGreatDoor.Vc

open As
/-- The marks so far, the others false. -/
def mrow (f : List Ev → Ev → Bool) (l : List Ev) (n i : Nat) : List Value := boolRow (marks f l i ++ List.replicate (n - i) false)
theorem mrow_len (f : List Ev → Ev → Bool) (l : List Ev) {n i : Nat} (h : i ≤ n) : (mrow f l n i).length = n := by
  unfold mrow boolRow
  rw [List.length_map, List.length_append, marks_len, List.length_replicate]; omega
theorem mrow_end (f : List Ev → Ev → Bool) (l : List Ev) (n : Nat) : mrow f l n n = boolRow (marks f l n) := by
  unfold mrow
  rw [Nat.sub_self]; simp
theorem mrow_skip {f : List Ev → Ev → Bool} {l : List Ev} {n i : Nat} {x : Ev} (h : l[i]? = some x) (hi : i < n) (hf : f (l.take i) x = false) : mrow f l n (i + 1) = mrow f l n i := by
  unfold mrow
  rw [marks_succ f l h, hf, show n - i = (n - (i + 1)) + 1 by omega, List.replicate_succ]
  simp
theorem mrow_set {f : List Ev → Ev → Bool} {l : List Ev} {n i : Nat} {x : Ev} (h : l[i]? = some x) (hi : i < n) : lsetAll (mrow f l n i) i [.bool (f (l.take i) x)] = mrow f l n (i + 1) := by
  have hl := mrow_len f l (n := n) (i := i) (by omega)
  apply List.ext_getElem?
  intro k
  rw [lset_get _ _ _ _ (by rw [hl]; simp only [List.length_cons, List.length_nil]; omega)]
  simp only [List.length_cons, List.length_nil]
  unfold mrow boolRow
  rw [marks_succ f l h, List.getElem?_map, List.getElem?_map]
  by_cases e : k = i
  · subst e
    rw [if_pos (by omega), Nat.sub_self, List.getElem?_append_left (by rw [List.length_append, marks_len]; simp), List.getElem?_append_right (by rw [marks_len]; omega), marks_len, Nat.sub_self]
    rfl
  · rw [if_neg (by omega)]
    congr 1
    rcases Nat.lt_or_ge k i with g | g
    · rw [List.getElem?_append_left (by rw [marks_len]; omega), List.getElem?_append_left (by rw [List.length_append, marks_len]; omega), List.getElem?_append_left (by rw [marks_len]; omega)]
    · rw [List.getElem?_append_right (by rw [marks_len]; omega), List.getElem?_append_right (by rw [List.length_append, marks_len]; simp only [List.length_cons, List.length_nil]; omega), marks_len, List.length_append, marks_len]
      simp only [List.length_cons, List.length_nil, List.getElem?_replicate]
      by_cases hk : k < n
      · rw [if_pos (by omega), if_pos (by omega)]
      · rw [if_neg (by omega), if_neg (by omega)]
theorem mrow_nil (f : List Ev → Ev → Bool) (l : List Ev) (n : Nat) : mrow f l n 0 = repl n [.bool false] := by
  unfold mrow marks boolRow
  simp only [List.range_zero, List.map_nil, List.nil_append, Nat.sub_zero, List.map_replicate]
  induction n with
  | zero => rfl
  | succ n ih => rw [List.replicate_succ, ih]; rfl

def rRat_pre (a b c d s t u : Int) (p : Option Addr) (n cc : Nat) (p1 : Option Addr) (n1 c1 : Nat) (m : Mem) : Prop := n1 ≤ 1000000 ∧ ∃ L l, JobsAt m p n L ∧ EvsAt m p1 n1 l
def rRat_post (a b c d s t u : Int) (p : Option Addr) (n cc : Nat) (p1 : Option Addr) (n1 c1 : Nat) (m : Mem) (q : Option Addr) (n2 c2 : Nat) (z : Int) : Prop := ∀ L l, JobsAt m p n L → EvsAt m p1 n1 l → z = auE a b c d t u L l ∧ RowM m q (flRow 3 (auI a b c d t u L l (rateP t u L))) ∧ n2 = (auI a b c d t u L l (rateP t u L)).length
def rRat : Sp := { args := [.i .i64, .i .i64, .i .i64, .i .i64, .i .u64, .i .i64, .i .i64, .sl, .sl], grp := [some 8, none], res := [.sl, .i .i64], rgrp := [none, none], fn := 12, spec := fun a0 a1 a2 a3 a4 a5 a6 a7 a8 a9 a10 a11 a12 => (rRat_pre a0 a1 a2 a3 a4 a5 a6 a7 a8 a9 a10 a11 a12, rRat_post a0 a1 a2 a3 a4 a5 a6 a7 a8 a9 a10 a11 a12) }
def rRat_VC : Prop := ∀ m : Mem, ∀ x0 : Int, IntKind.i64.min ≤ x0 → x0 ≤ IntKind.i64.max → ∀ x1 : Int, IntKind.i64.min ≤ x1 → x1 ≤ IntKind.i64.max → ∀ x2 : Int, IntKind.i64.min ≤ x2 → x2 ≤ IntKind.i64.max → ∀ x3 : Int, IntKind.i64.min ≤ x3 → x3 ≤ IntKind.i64.max → ∀ x4 : Int, IntKind.u64.min ≤ x4 → x4 ≤ IntKind.u64.max → ∀ x5 : Int, IntKind.i64.min ≤ x5 → x5 ≤ IntKind.i64.max → ∀ x6 : Int, IntKind.i64.min ≤ x6 → x6 ≤ IntKind.i64.max → ∀ (p0 : Option Addr) (n0 c0 : Nat), n0 ≤ 9223372036854775807 → c0 ≤ 9223372036854775807 → ∀ (p1 : Option Addr) (n1 c1 : Nat), n1 ≤ 9223372036854775807 → c1 ≤ 9223372036854775807 → rRat_pre x0 x1 x2 x3 x4 x5 x6 p0 n0 c0 p1 n1 c1 m →
 ((n0 ≤ 9223372036854775807 ∧ c0 ≤ 9223372036854775807) ∧ rcChk_pre x0 x1 x2 x3 x4 x5 x6 (p0.map fun p => p.add 0) n0 c0 m ∧ ∀ m1 : Mem, MemSub m m1 → ∀ x11 : Int, IntKind.i64.min ≤ x11 → x11 ≤ IntKind.i64.max → rcChk_post x0 x1 x2 x3 x4 x5 x6 (p0.map fun p => p.add 0) n0 c0 m1 x11 →
 ((x11 = 0 →
 ((n1 ≤ 9223372036854775807 ∧ c1 ≤ 9223372036854775807) ∧ rtChk_pre (p1.map fun p => p.add 0) n1 c1 (n0 : Int) m1 ∧ ∀ m2 : Mem, MemSub m1 m2 → ∀ x12 : Int, IntKind.i64.min ≤ x12 → x12 ≤ IntKind.i64.max → ∀ x13 : Int, IntKind.i64.min ≤ x13 → x13 ≤ IntKind.i64.max → rtChk_post (p1.map fun p => p.add 0) n1 c1 (n0 : Int) m2 x12 x13 →
 ((x13 ≠ 0 →
 ((K.i64 x13) ∧ rRat_post x0 x1 x2 x3 x4 x5 x6 p0 n0 c0 p1 n1 c1 m2 none 0 0 x13)) ∧
 (x13 = 0 →
 ((0 ≤ (n1 : Int) ∧ (n1 : Int) ≤ 1000000) ∧ ∀ (p2 : Addr) (r0 : List Value), r0 = repl ((n1 : Int)).toNat [(Value.bool false)] → (∃ F3 : Int → List Value → Prop × Nat, ((K.i64 0) ∧ (F3 0 r0).1) ∧
 ∀ x14 : Int, IntKind.i64.min ≤ x14 → x14 ≤ IntKind.i64.max → ∀ r1 : List Value, (F3 x14 r1).1 →
 ((x14 < (n1 : Int) →
 (0 ≤ x14 ∧ (p1 ≠ none ∧ (HasI m2 p1 (0 + (x14 * 8)) 1 ∧ (∃ x15 : Int, cellI m2 p1 (0 + (x14 * 8)) = some (Value.int IntKind.i64 x15) ∧ (K.i64 x15) ∧ ((x15 = 1 →
 (0 ≤ x14 ∧ (p1 ≠ none ∧ (HasI m2 p1 ((0 + (x14 * 8)) + 2) 1 ∧ (∃ x16 : Int, cellI m2 p1 ((0 + (x14 * 8)) + 2) = some (Value.int IntKind.i64 x16) ∧ (K.i64 x16) ∧ ((n1 ≤ 9223372036854775807 ∧ c1 ≤ 9223372036854775807) ∧ rKep_pre (p1.map fun p => p.add 0) n1 c1 x14 x5 x6 (-1 : Int) m2 ∧ ∀ m4 : Mem, MemSub m2 m4 → ∀ b0 : Bool, rKep_post (p1.map fun p => p.add 0) n1 c1 x14 x5 x6 (-1 : Int) m4 b0 →
 ((b0 = false →
 (0 ≤ x14 ∧ ((some p2) ≠ none ∧ ((0 ≤ (0 + x14) ∧ (0 + x14) + 1 ≤ (r1.length : Int)) ∧ ∀ r2 : List Value, r2 = lsetAll r1 ((0 + x14)).toNat [(Value.bool true)] → ((x14 + 1) ≤ 9223372036854775807 ∧ ((IntKind.i64.min ≤ (x14 + 1) ∧ (x14 + 1) ≤ IntKind.i64.max) ∧ ((F3 (x14 + 1) r2).1 ∧ (F3 (x14 + 1) r2).2 < (F3 x14 r1).2))))))) ∧
 (b0 = true →
 (0 ≤ x16 ∧ (x16 < (n0 : Int) ∧ (p0 ≠ none ∧ (HasI m4 p0 (((0 + (x16 * 30)) + 15) + 6) 2 ∧ (∃ x17 : Int, cellI m4 p0 (((0 + (x16 * 30)) + 15) + 6) = some (Value.int IntKind.i64 x17) ∧ (K.i64 x17) ∧ (∃ x18 : Int, cellI m4 p0 ((((0 + (x16 * 30)) + 15) + 6) + 1) = some (Value.int IntKind.i64 x18) ∧ (K.i64 x18) ∧ ((n1 ≤ 9223372036854775807 ∧ c1 ≤ 9223372036854775807) ∧ rKep_pre (p1.map fun p => p.add 0) n1 c1 x14 x17 x18 x16 m4 ∧ ∀ m5 : Mem, MemSub m4 m5 → ∀ b1 : Bool, rKep_post (p1.map fun p => p.add 0) n1 c1 x14 x17 x18 x16 m5 b1 →
 (0 ≤ x14 ∧ ((some p2) ≠ none ∧ ((0 ≤ (0 + x14) ∧ (0 + x14) + 1 ≤ (r1.length : Int)) ∧ ∀ r2 : List Value, r2 = lsetAll r1 ((0 + x14)).toNat [(Value.bool (!b1))] → ((x14 + 1) ≤ 9223372036854775807 ∧ ((IntKind.i64.min ≤ (x14 + 1) ∧ (x14 + 1) ≤ IntKind.i64.max) ∧ ((F3 (x14 + 1) r2).1 ∧ (F3 (x14 + 1) r2).2 < (F3 x14 r1).2))))))))))))))))))))) ∧
 (x15 ≠ 1 →
 ((x14 + 1) ≤ 9223372036854775807 ∧ ((IntKind.i64.min ≤ (x14 + 1) ∧ (x14 + 1) ≤ IntKind.i64.max) ∧ ((F3 (x14 + 1) r1).1 ∧ (F3 (x14 + 1) r1).2 < (F3 x14 r1).2)))))))))) ∧
 ((n1 : Int) ≤ x14 →
 (∀ m4 : Mem, MemSub m2 m4 → RowAt m4 (some p2) r1 → ((n1 ≤ 9223372036854775807 ∧ n1 ≤ 9223372036854775807) ∧ rFlw_pre 3 ((some p2).map fun p => p.add 0) n1 n1 m4 ∧ ∀ m5 : Mem, MemSub m4 m5 → ∀ (p3 : Option Addr) (n3 c3 : Nat), n3 ≤ 9223372036854775807 → c3 ≤ 9223372036854775807 → rFlw_post 3 ((some p2).map fun p => p.add 0) n1 n1 m5 p3 n3 c3 →
 ((n3 ≤ 9223372036854775807 ∧ c3 ≤ 9223372036854775807) ∧ (K.i64 0) ∧ rRat_post x0 x1 x2 x3 x4 x5 x6 p0 n0 c0 p1 n1 c1 m5 (p3.map fun p => p.add 0) n3 c3 0))))))))))) ∧
 (x11 ≠ 0 →
 ((K.i64 x11) ∧ rRat_post x0 x1 x2 x3 x4 x5 x6 p0 n0 c0 p1 n1 c1 m1 none 0 0 x11))))
set_option maxHeartbeats 4000000 in
theorem rRat_vc : rRat_VC := by
  intro m x0 _ _ x1 _ _ x2 _ _ x3 _ _ x4 _ _ x5 k5 k5' x6 k6 k6' p0 n0 c0 hn0 hc0 p1 n1 c1 hn1 hc1 ⟨hb, L, l, hL, hl⟩
  have hLn := hL.1
  have hln := hl.1
  have ps : ∀ (m' : Mem) (q : Option Addr) (n2 c2 : Nat) (z : Int), MemSub m m' → z = auE x0 x1 x2 x3 x5 x6 L l → RowM m' q (flRow 3 (auI x0 x1 x2 x3 x5 x6 L l (rateP x5 x6 L))) → n2 = (auI x0 x1 x2 x3 x5 x6 L l (rateP x5 x6 L)).length → rRat_post x0 x1 x2 x3 x4 x5 x6 p0 n0 c0 p1 n1 c1 m' q n2 c2 z := by
    intro m' q n2 c2 z h e1 e2 e3 L' l' hL' hl'
    rw [← hL.uniq h hL', ← hl.uniq h hl']
    exact ⟨e1, e2, e3⟩
  have none_ : ∀ m' : Mem, RowM m' none [] := fun m' => ⟨(fun p h => by cases h), fun _ => rfl⟩
  refine ⟨⟨hn0, hc0⟩, ⟨L, by rw [map_add0]; exact hL⟩, fun m1 hm1 e ek1 ek2 he => ?_⟩
  rw [map_add0] at he
  have he : e = cfgE x0 x1 x2 x3 x5 x6 L := he L (hL.sub hm1)
  refine ⟨fun h0 => ?_, fun hne => ?_⟩
  rotate_left
  · have ha : auE x0 x1 x2 x3 x5 x6 L l = e := by unfold auE; rw [← he, if_pos hne]
    have hi : auI x0 x1 x2 x3 x5 x6 L l (rateP x5 x6 L) = [] := by unfold auI; rw [ha, if_neg hne]
    exact ⟨⟨ek1, ek2⟩, ps m1 none 0 0 e hm1 ha.symm (by rw [hi]; exact none_ _) (by rw [hi]; rfl)⟩
  have hc : cfgE x0 x1 x2 x3 x5 x6 L = 0 := by rw [← he]; exact h0
  refine ⟨⟨hn1, hc1⟩, ?_⟩
  rw [map_add0]
  refine ⟨?_, fun m2 hm2 y yk1 yk2 g gk1 gk2 hg => ?_⟩
  · exact ⟨l, hl.sub hm1, hb⟩
  have hg0 : (y, g) = trcE (n0 : Int) l := hg l (hl.sub hm1 |>.sub hm2)
  have ha : auE x0 x1 x2 x3 x5 x6 L l = g := by unfold auE; rw [if_neg (by rw [hc]; simp), hLn, ← hg0]
  refine ⟨fun hne => ?_, fun g0 => ?_⟩
  · have hi : auI x0 x1 x2 x3 x5 x6 L l (rateP x5 x6 L) = [] := by unfold auI; rw [ha, if_neg hne]
    exact ⟨⟨gk1, gk2⟩, ps m2 none 0 0 g (hm1.trans hm2) ha.symm (by rw [hi]; exact none_ _) (by rw [hi]; rfl)⟩
  rw [g0] at hg0 ha
  obtain ⟨hjl, hev⟩ := trcE_ok hg0
  have hsame := rate_same (l := l) hc (by rw [hLn]; exact hev)
  have hi : auI x0 x1 x2 x3 x5 x6 L l (rateP x5 x6 L) = idxs (marks (rateD x5 x6 L) l l.length) 0 := by unfold auI; rw [ha, if_pos rfl, hsame]
  obtain ⟨h64, ⟨hT, hTau⟩, hjob⟩ := cfg_ok hc
  have hL2 := (hL.sub hm1).sub hm2
  have hl2 := (hl.sub hm1).sub hm2
  have kz : K.i64 0 := by constructor <;> decide
  have hts : ∀ x ∈ l, 0 ≤ x.at_ ∧ x.at_ ≤ 253402300799 := by
    intro z hz'
    obtain ⟨k, hk'⟩ := List.getElem?_of_mem hz'
    exact evP_time (evErr_valid (hev k z hk')).1
  refine ⟨⟨by omega, by omega⟩, fun p2 r0 hr0 => ⟨fun y r => (∃ i : Nat, y = i ∧ i ≤ n1 ∧ r = mrow (rateD x5 x6 L) l n1 i, ((n1 : Int) - y).toNat), ⟨kz, 0, rfl, by omega, ?_⟩, ?_⟩⟩
  · rw [hr0, mrow_nil, Int.toNat_natCast]
  rintro y2 yk3 yk4 r1 ⟨i, rfl, hi0, rfl⟩
  refine ⟨fun hlt => ?_, fun hge => ?_⟩
  rotate_left
  · have e : i = n1 := by omega
    subst e
    intro m4 hm4 hrow
    refine ⟨⟨hn1, hn1⟩, ?_⟩
    rw [map_add0, mrow_end] at *
    have hrm : RowM m4 (some p2) (boolRow (marks (rateD x5 x6 L) l i)) := ⟨hrow, (fun h => by cases h)⟩
    refine ⟨⟨_, marks_len _ _ _, hrm, hb⟩, fun m5 hm5 p3 n3 c3 hn3 hc3 hp => ?_⟩
    obtain ⟨hp1, hp2⟩ := hp _ (marks_len _ _ _) (hrm.sub hm5)
    rw [map_add0]
    refine ⟨⟨hn3, hc3⟩, kz, ps m5 p3 n3 c3 0 (((hm1.trans hm2).trans hm4).trans hm5) ha.symm ?_ ?_⟩
    · rw [hi, hln]; exact hp1
    · rw [hi, hln]; exact hp2
  obtain ⟨x, hx, hpn, hat, hhas⟩ := hl2.at_ (i := (i : Int)) (by omega) hlt
  rw [Int.toNat_natCast] at hx
  have hva := evErr_valid (hev i x hx)
  have hrl := mrow_len (rateD x5 x6 L) l (n := n1) (i := i) hi0
  have again : ∀ r2 : List Value, r2 = mrow (rateD x5 x6 L) l n1 (i + 1) → (((i : Int) + 1) ≤ 9223372036854775807 ∧ ((IntKind.i64.min ≤ ((i : Int) + 1) ∧ ((i : Int) + 1) ≤ IntKind.i64.max) ∧ ((∃ k : Nat, ((i : Int) + 1) = k ∧ k ≤ n1 ∧ r2 = mrow (rateD x5 x6 L) l n1 k) ∧ ((n1 : Int) - ((i : Int) + 1)).toNat < ((n1 : Int) - (i : Int)).toNat))) := fun r2 h => ⟨by omega, k64 (by omega) (by omega), ⟨i + 1, by omega, by omega, h⟩, by omega⟩
  refine ⟨by omega, hpn, hat.1.has, x.kind, hat.1.1, hat.1.2, fun hk => ?_, fun hk => again _ (mrow_skip hx (by omega) (by simp [rateD, hk])).symm⟩
  have hj0 := evP_job hva.1 (by omega)
  have hj1 := hva.2.1 (by omega)
  refine ⟨by omega, hpn, hat.2.2.1.has, x.job, hat.2.2.1.1, hat.2.2.1.2, ⟨hn1, hc1⟩, ?_⟩
  refine ⟨⟨⟨by omega, hlt, hb, hT, hTau⟩, l, hl2, hts⟩, fun m4 hm4 b0 hb0 => ?_⟩
  have hb0 : b0 = keepR x5 x6 x.at_ 1 (lat (jobq (-1)) (l.take i)).reverse := by
    have := hb0 l x (hl2.sub hm4) (by rw [Int.toNat_natCast]; exact hx)
    rw [Int.toNat_natCast] at this; exact this
  have hJ' : L[x.job.toNat]? = some (L[x.job.toNat]'(by omega)) := List.getElem?_eq_getElem _
  generalize L[x.job.toNat]'(by omega) = J at hJ'
  have hset : ∀ b : Bool, b = rateD x5 x6 L (l.take i) x → ∀ r2 : List Value, r2 = lsetAll (mrow (rateD x5 x6 L) l n1 i) ((0 + (i : Int))).toNat [.bool b] → r2 = mrow (rateD x5 x6 L) l n1 (i + 1) := by
    intro b hb' r2 hr2
    rw [hr2, hb', show ((0 + (i : Int))).toNat = i by omega, mrow_set hx (by omega)]
  have hrate : rateD x5 x6 L (l.take i) x = (!b0 || !keepR J.pol.lim.t J.pol.lim.tau x.at_ 1 (lat (jobq x.job) (l.take i)).reverse) := by
    unfold rateD
    rw [hJ', ← hb0, hk]; simp
  refine ⟨fun hbf => ⟨by omega, by simp, ⟨by omega, by omega⟩, fun r2 hr2 => again r2 (hset true (by rw [hrate, hbf]; rfl) r2 hr2)⟩, fun hbt => ?_⟩
  have hL4 := hL2.sub hm4
  obtain ⟨J2, hJ2, hjat⟩ := hL4.at_ hj0 hj1
  rw [hJ'] at hJ2; cases hJ2
  obtain ⟨⟨q1, q2⟩, _, _, hp⟩ := hjat
  have hp21 := hp.2.2.2.2.2.2.1
  have hp22 := hp.2.2.2.2.2.2.2.1
  obtain ⟨_, hJT, hJTau⟩ := hjob J (List.mem_of_getElem? hJ')
  have hh : HasI m4 p0 (((0 + (x.job * 30)) + 15) + 6) 2 := by
    have h1 := hasI_part q2 21 2 (by omega)
    rw [show ((0 + (x.job * 30)) + 15) + 6 = (0 + x.job * 30) + ((21 : Nat) : Int) by omega]
    exact h1
  refine ⟨hj0, hj1, q1, hh, J.pol.lim.t, cellI_to hp21.1 (by omega), hp21.2, J.pol.lim.tau, cellI_to hp22.1 (by omega), hp22.2, ⟨hn1, hc1⟩, ?_⟩
  refine ⟨⟨⟨by omega, hlt, hb, hJT, hJTau⟩, l, hl2.sub hm4, hts⟩, fun m5 hm5 b1 hb1 => ⟨by omega, by simp, ⟨by omega, by omega⟩, fun r2 hr2 => again r2 (hset (!b1) ?_ r2 hr2)⟩⟩
  have hb1 : b1 = keepR J.pol.lim.t J.pol.lim.tau x.at_ 1 (lat (jobq x.job) (l.take i)).reverse := by
    have := hb1 l x ((hl2.sub hm4).sub hm5) (by rw [Int.toNat_natCast]; exact hx)
    rw [Int.toNat_natCast] at this; exact this
  rw [hrate, ← hb1, hbt]; rfl
theorem rRat_pg : ∀ m, forallF rRat.args rRat.spec fun r => r.1 m → GlobsAt m [] := fun m a b c d s t u p n cc p1 n1 c1 h => trivial
theorem rRat_ok : SpOk Tryz.prog rRat :=
  con_okZ [] [] [] rfl (sps_of [rcChk, rtChk, rFlw, rKep] ⟨rcChk_ok, ⟨rtChk_ok, ⟨rFlw_ok, ⟨rKep_ok, trivial⟩⟩⟩⟩ rfl) (tab_ok _ [⟨(62, 6), [], [], [], [2]⟩]) 1000 rRat _ rfl rfl rRat_pg (Eq.mp (show rRat_VC = _ by kernel_rfl) rRat_vc)

end Go.Proofs.YtfpfagmmdiohbaaGreatDoor.Vc
set_option linter.unusedVariables false
set_option linter.unusedSimpArgs false
set_option linter.unusedVariables false
set_option linter.unusedSimpArgs false
namespace Go.Proofs.YtfpfagmmdiohbaaGreatDoor.Vc

theorem flRow_get (k : Int) : ∀ (I : List Nat) (i j : Nat), I[i]? = some j → (flRow k I)[2 * i]? = some (.int .i64 k) ∧ (flRow k I)[2 * i + 1]? = some (.int .i64 (j : Int)) := by
  intro I
  induction I with
  | nil => intro i j h; simp at h
  | cons x I ih =>
    intro i j h
    cases i with
    | zero => simp at h; subst h; exact ⟨rfl, rfl⟩
    | succ i =>
      obtain ⟨h1, h2⟩ := ih i j (by simpa using h)
      rw [show 2 * (i + 1) = 2 * i + 1 + 1 by omega]
      exact ⟨h1, h2⟩
theorem idxs_lt : ∀ (B : List Bool) (k i : Nat), i ∈ idxs B k → i < k + B.length := by
  intro B
  induction B with
  | nil => intro k i h; cases h
  | cons b B ih =>
    intro k i h
    simp only [idxs] at h
    cases b with
    | true =>
      rcases List.mem_cons.1 h with h | h
      · simp only [List.length_cons]; omega
      · have := ih (k + 1) i h; simp only [List.length_cons]; omega
    | false => have := ih (k + 1) i h; simp only [List.length_cons]; omega
theorem auI_le {a b c d t u : Int} {L : List JobR} {l : List As.Ev} {f : List As.Ev → As.Ev → Bool} {i : Nat} (h : i ∈ auI a b c d t u L l f) : i < l.length := by
  unfold auI at h
  split at h
  · have := idxs_lt _ _ _ h
    rw [marks_len] at this; omega
  · cases h

def eqF_pre (p : Option Addr) (n c : Nat) (p1 : Option Addr) (n1 c1 : Nat) (m : Mem) : Prop := ∃ k I, K.i64 k ∧ n = I.length ∧ n1 = I.length ∧ RowM m p (flRow k I) ∧ RowM m p1 (flRow k I) ∧ ∀ i ∈ I, i ≤ 1000000
def eqF_post (p : Option Addr) (n c : Nat) (p1 : Option Addr) (n1 c1 : Nat) (m : Mem) (b : Bool) : Prop := b = true
def eqF : Sp := { args := [.sl, .sl], grp := [none, none], res := [.b], rgrp := [none], fn := 13, spec := fun a0 a1 a2 a3 a4 a5 => (eqF_pre a0 a1 a2 a3 a4 a5, eqF_post a0 a1 a2 a3 a4 a5) }
def eqF_VC : Prop := ∀ m : Mem, ∀ (p0 : Option Addr) (n0 c0 : Nat), n0 ≤ 9223372036854775807 → c0 ≤ 9223372036854775807 → ∀ (p1 : Option Addr) (n1 c1 : Nat), n1 ≤ 9223372036854775807 → c1 ≤ 9223372036854775807 → eqF_pre p0 n0 c0 p1 n1 c1 m →
 (((n0 : Int) ≠ (n1 : Int) →
 (eqF_post p0 n0 c0 p1 n1 c1 m false)) ∧
 ((n0 : Int) = (n1 : Int) →
 (∃ F1 : Bool → Int → Prop × Nat, ((K.i64 0) ∧ (F1 false 0).1) ∧
 ∀ b0 : Bool, ∀ x4 : Int, IntKind.i64.min ≤ x4 → x4 ≤ IntKind.i64.max → (F1 b0 x4).1 →
 ((x4 < (n0 : Int) →
 (0 ≤ x4 ∧ (p0 ≠ none ∧ (HasI m p0 (0 + (x4 * 2)) 2 ∧ (0 ≤ x4 ∧ (x4 < (n1 : Int) ∧ (p1 ≠ none ∧ (HasI m p1 (0 + (x4 * 2)) 2 ∧ (∃ x5 : Int, cellI m p0 (0 + (x4 * 2)) = some (Value.int IntKind.i64 x5) ∧ (K.i64 x5) ∧ (∃ x6 : Int, cellI m p1 (0 + (x4 * 2)) = some (Value.int IntKind.i64 x6) ∧ (K.i64 x6) ∧ (∃ x7 : Int, cellI m p0 ((0 + (x4 * 2)) + 1) = some (Value.int IntKind.i64 x7) ∧ (K.i64 x7) ∧ (∃ x8 : Int, cellI m p1 ((0 + (x4 * 2)) + 1) = some (Value.int IntKind.i64 x8) ∧ (K.i64 x8) ∧ (((x5 = x6 → x7 ≠ x8) →
 (eqF_post p0 n0 c0 p1 n1 c1 m false)) ∧
 ((x5 = x6 ∧ x7 = x8) →
 ((x4 + 1) ≤ 9223372036854775807 ∧ ((IntKind.i64.min ≤ (x4 + 1) ∧ (x4 + 1) ≤ IntKind.i64.max) ∧ ((F1 b0 (x4 + 1)).1 ∧ (F1 b0 (x4 + 1)).2 < (F1 b0 x4).2))))))))))))))))) ∧
 ((n0 : Int) ≤ x4 →
 (eqF_post p0 n0 c0 p1 n1 c1 m true))))))
set_option maxHeartbeats 4000000 in
theorem eqF_vc : eqF_VC := by
  intro m p n c hn hc p1 n1 c1 hn1 hc1 ⟨k, I, hk, e1, e2, h1, h2, hI⟩
  subst e1
  refine ⟨fun h => absurd (by omega) h, fun _ => ⟨fun b y => (∃ i : Nat, y = i ∧ i ≤ I.length, ((I.length : Int) - y).toNat), ⟨by constructor <;> decide, 0, rfl, by omega⟩, ?_⟩⟩
  rintro b y ky1 ky2 ⟨i, rfl, hi⟩
  refine ⟨fun hlt => ?_, fun _ => rfl⟩
  have hj : I[i]? = some (I[i]'(by omega)) := List.getElem?_eq_getElem _
  have hjm := hI _ (List.mem_of_getElem? hj)
  obtain ⟨g1, g2⟩ := flRow_get k I i _ hj
  have a1 := (h1.int g1 hk).to (b := 0 + (i : Int) * 2) (by omega)
  have a2 := (h1.int g2 (k64 (by omega) (by omega))).to (b := (0 + (i : Int) * 2) + 1) (by omega)
  have b1 := (h2.int g1 hk).to (b := 0 + (i : Int) * 2) (by omega)
  have b2 := (h2.int g2 (k64 (by omega) (by omega))).to (b := (0 + (i : Int) * 2) + 1) (by omega)
  have two : ∀ {q : Option Addr} {x y : Int}, IntAt m q (0 + (i : Int) * 2) x → IntAt m q ((0 + (i : Int) * 2) + 1) y → HasI m q (0 + (i : Int) * 2) 2 := by
    intro q x y u v
    refine (hasI_of (by omega) fun j hj => ?_).2
    rcases (by omega : j = 0 ∨ j = 1) with rfl | rfl
    · exact ⟨_, by simpa using u.1⟩
    · exact ⟨_, v.1⟩
  exact ⟨by omega, a1.ne, two a1 a2, by omega, by omega, b1.ne, two b1 b2, _, a1.1, a1.2, _, b1.1, b1.2, _, a2.1, a2.2, _, b2.1, b2.2, fun h => absurd rfl (h rfl), fun _ => ⟨by omega, k64 (by omega) (by omega), ⟨i + 1, by omega, by omega⟩, by first | omega | (simp only; omega)⟩⟩
theorem eqF_ok : SpOk Tryz.prog eqF :=
  con_ok (sps_of [] trivial rfl) (tab_ok _ [⟨(26, 4), [], [], [], []⟩]) 1000 eqF _ rfl rfl (Eq.mp (show eqF_VC = _ by kernel_rfl) eqF_vc)

def fFew_pre (a b c d s t u : Int) (p : Option Addr) (n cc : Nat) (m : Mem) : Prop := ∃ L, JobsAt m p n L
def fFew_post (a b c d s t u : Int) (p : Option Addr) (n cc : Nat) (m : Mem) (b : Bool) : Prop := True
def fFew : Sp := { args := [.i .i64, .i .i64, .i .i64, .i .i64, .i .u64, .i .i64, .i .i64, .sl], grp := [some 8], res := [.b], rgrp := [none], fn := 54, spec := fun a0 a1 a2 a3 a4 a5 a6 a7 a8 a9 => (fFew_pre a0 a1 a2 a3 a4 a5 a6 a7 a8 a9, fFew_post a0 a1 a2 a3 a4 a5 a6 a7 a8 a9) }
def fFew_VC : Prop := ∀ m : Mem, ∀ x0 : Int, IntKind.i64.min ≤ x0 → x0 ≤ IntKind.i64.max → ∀ x1 : Int, IntKind.i64.min ≤ x1 → x1 ≤ IntKind.i64.max → ∀ x2 : Int, IntKind.i64.min ≤ x2 → x2 ≤ IntKind.i64.max → ∀ x3 : Int, IntKind.i64.min ≤ x3 → x3 ≤ IntKind.i64.max → ∀ x4 : Int, IntKind.u64.min ≤ x4 → x4 ≤ IntKind.u64.max → ∀ x5 : Int, IntKind.i64.min ≤ x5 → x5 ≤ IntKind.i64.max → ∀ x6 : Int, IntKind.i64.min ≤ x6 → x6 ≤ IntKind.i64.max → ∀ (p0 : Option Addr) (n0 c0 : Nat), n0 ≤ 9223372036854775807 → c0 ≤ 9223372036854775807 → fFew_pre x0 x1 x2 x3 x4 x5 x6 p0 n0 c0 m →
 ((100 < (n0 : Int) →
 (fFew_post x0 x1 x2 x3 x4 x5 x6 p0 n0 c0 m false)) ∧
 ((n0 : Int) ≤ 100 →
 (∃ F1 : Bool → Int → Prop × Nat, ((K.i64 0) ∧ (F1 false 0).1) ∧
 ∀ b0 : Bool, ∀ x9 : Int, IntKind.i64.min ≤ x9 → x9 ≤ IntKind.i64.max → (F1 b0 x9).1 →
 ((x9 < (n0 : Int) →
 (0 ≤ x9 ∧ (p0 ≠ none ∧ (HasI m p0 (((0 + (x9 * 30)) + 1) + 13) 1 ∧ (∃ (p1 : Option Addr) (n1 c1 : Nat), cellI m p0 (((0 + (x9 * 30)) + 1) + 13) = some (Value.slice p1 n1 c1) ∧ (n1 ≤ c1 ∧ c1 ≤ 9223372036854775807) ∧ ((100 < (n1 : Int) →
 (fFew_post x0 x1 x2 x3 x4 x5 x6 p0 n0 c0 m false)) ∧
 ((n1 : Int) ≤ 100 →
 (0 ≤ x9 ∧ (p0 ≠ none ∧ (HasI m p0 (0 + (x9 * 30)) 1 ∧ (∃ s0 : List UInt8, cellI m p0 (0 + (x9 * 30)) = some (Value.string ⟨List.toArray s0⟩) ∧ (∀ x12 : Int, x12 = ((s0.length : Nat) : Int) → 0 ≤ x12 ∧ x12 ≤ 9223372036854775807 ∧ ((100 < x12 →
 (fFew_post x0 x1 x2 x3 x4 x5 x6 p0 n0 c0 m false)) ∧
 (x12 ≤ 100 →
 ((x9 + 1) ≤ 9223372036854775807 ∧ ((IntKind.i64.min ≤ (x9 + 1) ∧ (x9 + 1) ≤ IntKind.i64.max) ∧ ((F1 b0 (x9 + 1)).1 ∧ (F1 b0 (x9 + 1)).2 < (F1 b0 x9).2))))))))))))))))) ∧
 ((n0 : Int) ≤ x9 →
 (fFew_post x0 x1 x2 x3 x4 x5 x6 p0 n0 c0 m true))))))
set_option maxHeartbeats 4000000 in
theorem fFew_vc : fFew_VC := by
  intro m x0 _ _ x1 _ _ x2 _ _ x3 _ _ x4 _ _ x5 _ _ x6 _ _ p n c hn hc ⟨L, hL⟩
  refine ⟨fun _ => trivial, fun h100 => ⟨fun b y => (0 ≤ y, ((n : Int) - y).toNat), ⟨by constructor <;> decide, Int.le_refl 0⟩, ?_⟩⟩
  intro b y ky1 ky2 h0
  refine ⟨fun hlt => ?_, fun _ => trivial⟩
  obtain ⟨J, hJ, hat⟩ := hL.at_ h0 hlt
  obtain ⟨⟨q1, q2⟩, hnm, hpl, _⟩ := hat
  obtain ⟨_, _, _, _, _, _, _, _, _, _, _, _, _, q, n2, c2, s1, s2, s3⟩ := hpl
  have hh : HasI m p (((0 + (y * 30)) + 1) + 13) 1 := by
    have h1 := hasI_part q2 14 1 (by omega)
    rw [show ((0 + (y * 30)) + 1) + 13 = (0 + y * 30) + ((14 : Nat) : Int) by omega]
    exact h1
  have hh0 : HasI m p (0 + (y * 30)) 1 := by
    have h1 := hasI_part q2 0 1 (by omega)
    rw [show (0 + (y * 30)) = (0 + y * 30) + ((0 : Nat) : Int) by omega]
    exact h1
  refine ⟨h0, q1, hh, q, n2, c2, cellI_to s1 (by omega), s2, fun _ => trivial, fun _ => ⟨h0, q1, hh0, J.name, hnm.1, fun z hz => ⟨by omega, by have := hnm.2; omega, fun _ => trivial, fun _ => ⟨by omega, k64 (by omega) (by omega), ?_, ?_⟩⟩⟩⟩
  · show 0 ≤ y + 1; omega
  · show ((n : Int) - (y + 1)).toNat < ((n : Int) - y).toNat; omega
theorem fFew_ok : SpOk Tryz.prog fFew :=
  con_ok (sps_of [] trivial rfl) (tab_ok _ [⟨(34, 4), [], [], [], []⟩]) 1000 fFew _ rfl rfl (Eq.mp (show fFew_VC = _ by kernel_rfl) fFew_vc)
end Go.Proofs.YtfpfagmmdiohbaaGreatDoor.Vc
