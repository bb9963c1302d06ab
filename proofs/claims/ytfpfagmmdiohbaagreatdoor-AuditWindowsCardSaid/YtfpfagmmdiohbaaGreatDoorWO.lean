/-
  Contracts, by their trees; Launches of two jobs, and the spans of time that the law AuditWindows looks at: plain; Contracts, by their trees.
-/
import Derived.Test.YtfpfagmmdiohbaaGreatDoorWN
import Derived.Test.YtfpfagmmdiohbaaGreatDoorWG
set_option linter.unusedVariables false
set_option linter.unusedSimpArgs false
set_option linter.unusedVariables false
set_option linter.unusedSimpArgs false
namespace Go.Proofs.YtfpfagmmdiohbaaGreatDoor.Vc
open As
def rateP (t u : Int) (L : List JobR) (p : List Ev) (x : Ev) : Bool :=
  decide (x.kind = 1) && (As.early t u (lat allq p) x.at_ || match L[x.job.toNat]? with | some J => As.early J.pol.lim.t J.pol.lim.tau (lat (jq x.job) p) x.at_ | none => false)
/-- The row of the jobs' limits with the times that they run to. -/
def OwnAt (r : List Value) (L : List JobR) (p : List Ev) : Prop := r.length = 3 * L.length ∧ ∀ (j : Nat) (J : JobR), L[j]? = some J → r[3 * j]? = some (.int .i64 J.pol.lim.t) ∧ r[3 * j + 1]? = some (.int .i64 J.pol.lim.tau) ∧ r[3 * j + 2]? = some (.int .i64 (nextOf J.pol.lim.t (lat (jq j) p)))
theorem OwnAt.skip {r : List Value} {L : List JobR} {p : List Ev} {x : Ev} (h : OwnAt r L p) (hk : x.kind ≠ 1) : OwnAt r L (p ++ [x]) := by
  refine ⟨h.1, fun j J hJ => ?_⟩
  rw [lat_snoc, if_neg (fun g => hk g.1), List.append_nil]
  exact h.2 j J hJ
theorem OwnAt.step {r : List Value} {L : List JobR} {p : List Ev} {x : Ev} {j : Nat} {J : JobR} {v : Int} (h : OwnAt r L p) (hk : x.kind = 1) (hj : x.job = (j : Int)) (hJ : L[j]? = some J) (hv : v = max (nextOf J.pol.lim.t (lat (jq j) p)) x.at_ + J.pol.lim.t) : OwnAt (lsetAll r (3 * j + 2) [.int .i64 v]) L (p ++ [x]) := by
  have hjl := (List.getElem?_eq_some_iff.1 hJ).1
  have hl := h.1
  refine ⟨by rw [lsetAll_length]; exact hl, fun k T hT => ?_⟩
  obtain ⟨g1, g2, g3⟩ := h.2 k T hT
  have hkl := (List.getElem?_eq_some_iff.1 hT).1
  have hlen : 3 * j + 2 + [Value.int IntKind.i64 v].length ≤ r.length := by simp only [List.length_cons, List.length_nil]; omega
  rw [lset_get _ _ _ _ hlen, lset_get _ _ _ _ hlen, lset_get _ _ _ _ hlen]
  simp only [List.length_cons, List.length_nil]
  rw [if_neg (by omega), if_neg (by omega)]
  refine ⟨g1, g2, ?_⟩
  by_cases e : k = j
  · subst e
    rw [hJ] at hT; cases hT
    rw [if_pos (by omega), lat_snoc, if_pos ⟨hk, by simp [jq, hj]⟩, next_snoc, ← hv]
    simp
  · rw [if_neg (by omega), lat_snoc, if_neg (fun g => by have := g.2; simp only [jq, decide_eq_true_eq] at this; omega), List.append_nil]
    exact g3
theorem next_span {T : Int} {q : Ev → Bool} {p : List Ev} (hT : 0 ≤ T ∧ T ≤ 68719476736) (hp : p.length ≤ 1000000) (hv : ∀ x ∈ p, x.at_ ≤ 253402300799) : 0 ≤ nextOf T (lat q p) ∧ nextOf T (lat q p) ≤ 69000000000000000 := by
  obtain ⟨h1, h2⟩ := nextOf_bound (T := T) (M := 253402300799) hT.1 (by omega) (lat q p) (fun v hv' => by
    obtain ⟨x, hx, _, e⟩ := lat_mem hv'
    have := hv x hx
    omega)
  have h3 := lat_len q p
  have h4 : ((lat q p).length : Int) * T ≤ 1000000 * 68719476736 := Int.mul_le_mul (by omega) hT.2 hT.1 (by omega)
  omega
/-- The launches so far, the flaws so far. -/
def ratInv (t u : Int) (L : List JobR) (l : List Ev) (q : Option Addr) (n : Nat) (y v : Int) (r2 r3 : List Value) : Prop :=
  ∃ i : Nat, y = i ∧ i ≤ l.length ∧ v = nextOf t (lat allq (l.take i)) ∧ r2 = flRow 3 (idxs (marks (rateP t u L) l i) 0) ∧ n = (idxs (marks (rateP t u L) l i) 0).length ∧ (q = none → r2 = []) ∧ OwnAt r3 L (l.take i)
theorem rat_hit {t u : Int} {L : List JobR} {l : List Ev} {n n1 i : Nat} {v : Int} {r2 r4 : List Value} {x : Ev} (hx : l[i]? = some x) (hl : l.length ≤ 1000000) (hn1 : l.length = n1) (hr : r2 = flRow 3 (idxs (marks (rateP t u L) l i) 0)) (hn : n = (idxs (marks (rateP t u L) l i) 0).length)
    (hf : rateP t u L (l.take i) x = true) (hv : v = nextOf t (lat allq (l.take (i + 1)))) (hvk : K.i64 v) (ho : OwnAt r4 L (l.take (i + 1))) :
    (2 * ((n : Int) + 1) * 16 ≤ 281474976710656) ∧ ∀ (p4 : Addr) (c4 : Nat) (r5 : List Value), r5 = r2 ++ [.int .i64 3, .int .i64 (i : Int)] → (n : Int) + 1 ≤ (c4 : Int) → c4 ≤ 9223372036854775807 → (((i : Int) + 1) ≤ 9223372036854775807 ∧ (((Int.toNat ((n : Int) + 1)) ≤ 9223372036854775807 ∧ c4 ≤ 9223372036854775807) ∧ (IntKind.i64.min ≤ ((i : Int) + 1) ∧ ((i : Int) + 1) ≤ IntKind.i64.max) ∧ (K.i64 v) ∧
      (ratInv t u L l ((some p4).map fun p => p.add 0) (Int.toNat ((n : Int) + 1)) ((i : Int) + 1) v r5 r4 ∧ ((n1 : Int) - ((i : Int) + 1)).toNat < ((n1 : Int) - (i : Int)).toNat))) := by
  have hi := (List.getElem?_eq_some_iff.1 hx).1
  have hm := idx_marks_len (rateP t u L) l i
  have e := marks_hit (f := rateP t u L) hx hf
  refine ⟨by omega, fun p4 c4 r5 hr5 h1 h2 => ⟨by omega, ⟨by omega, h2⟩, k64 (by omega) (by omega), hvk, ⟨i + 1, by omega, by omega, hv, ?_, ?_, (fun h => by cases h), ho⟩, by omega⟩⟩
  · rw [hr5, e, flRow_app, hr]
  · rw [e, List.length_append, ← hn]; simp
theorem rat_miss {t u : Int} {L : List JobR} {l : List Ev} {n c n1 i : Nat} {q : Option Addr} {v : Int} {r2 r4 : List Value} {x : Ev} (hx : l[i]? = some x) (hl : l.length ≤ 1000000) (hn1 : l.length = n1) (hr : r2 = flRow 3 (idxs (marks (rateP t u L) l i) 0)) (hn : n = (idxs (marks (rateP t u L) l i) 0).length) (hq : q = none → r2 = [])
    (hf : rateP t u L (l.take i) x = false) (hv : v = nextOf t (lat allq (l.take (i + 1)))) (hvk : K.i64 v) (ho : OwnAt r4 L (l.take (i + 1))) (hnc : n ≤ 9223372036854775807 ∧ c ≤ 9223372036854775807) :
    (((i : Int) + 1) ≤ 9223372036854775807 ∧ ((n ≤ 9223372036854775807 ∧ c ≤ 9223372036854775807) ∧ (IntKind.i64.min ≤ ((i : Int) + 1) ∧ ((i : Int) + 1) ≤ IntKind.i64.max) ∧ (K.i64 v) ∧
      (ratInv t u L l (q.map fun p => p.add 0) n ((i : Int) + 1) v r2 r4 ∧ ((n1 : Int) - ((i : Int) + 1)).toNat < ((n1 : Int) - (i : Int)).toNat))) := by
  have hi := (List.getElem?_eq_some_iff.1 hx).1
  have e := marks_miss (f := rateP t u L) hx hf
  rw [map_add0]
  exact ⟨by omega, hnc, k64 (by omega) (by omega), hvk, ⟨i + 1, by omega, by omega, hv, by rw [e]; exact hr, by rw [e]; exact hn, hq, ho⟩, by omega⟩
def aRat_pre (a b c d s t u : Int) (p : Option Addr) (n cc : Nat) (p1 : Option Addr) (n1 c1 : Nat) (m : Mem) : Prop := (Globs m glSp ∧ n1 ≤ 1000000) ∧ ∃ L l, JobsAt m p n L ∧ EvsAt m p1 n1 l
def aRat_post (a b c d s t u : Int) (p : Option Addr) (n cc : Nat) (p1 : Option Addr) (n1 c1 : Nat) (m : Mem) (q : Option Addr) (n2 c2 : Nat) (z : Int) : Prop := ∀ L l, JobsAt m p n L → EvsAt m p1 n1 l → z = auE a b c d t u L l ∧ RowM m q (flRow 3 (auI a b c d t u L l (rateP t u L))) ∧ n2 = (auI a b c d t u L l (rateP t u L)).length
def aRat : Sp := { args := [.i .i64, .i .i64, .i .i64, .i .i64, .i .u64, .i .i64, .i .i64, .sl, .sl], grp := [some 8, none], res := [.sl, .i .i64], rgrp := [none, none], fn := 11, spec := fun a0 a1 a2 a3 a4 a5 a6 a7 a8 a9 a10 a11 a12 => (aRat_pre a0 a1 a2 a3 a4 a5 a6 a7 a8 a9 a10 a11 a12, aRat_post a0 a1 a2 a3 a4 a5 a6 a7 a8 a9 a10 a11 a12) }
def aRat_VC : Prop := ∀ m : Mem, ∀ x0 : Int, IntKind.i64.min ≤ x0 → x0 ≤ IntKind.i64.max → ∀ x1 : Int, IntKind.i64.min ≤ x1 → x1 ≤ IntKind.i64.max → ∀ x2 : Int, IntKind.i64.min ≤ x2 → x2 ≤ IntKind.i64.max → ∀ x3 : Int, IntKind.i64.min ≤ x3 → x3 ≤ IntKind.i64.max → ∀ x4 : Int, IntKind.u64.min ≤ x4 → x4 ≤ IntKind.u64.max → ∀ x5 : Int, IntKind.i64.min ≤ x5 → x5 ≤ IntKind.i64.max → ∀ x6 : Int, IntKind.i64.min ≤ x6 → x6 ≤ IntKind.i64.max → ∀ (p0 : Option Addr) (n0 c0 : Nat), n0 ≤ 9223372036854775807 → c0 ≤ 9223372036854775807 → ∀ (p1 : Option Addr) (n1 c1 : Nat), n1 ≤ 9223372036854775807 → c1 ≤ 9223372036854775807 → aRat_pre x0 x1 x2 x3 x4 x5 x6 p0 n0 c0 p1 n1 c1 m →
 ((n0 ≤ 9223372036854775807 ∧ c0 ≤ 9223372036854775807) ∧ cChk_pre x0 x1 x2 x3 x4 x5 x6 (p0.map fun p => p.add 0) n0 c0 m ∧ ∀ m1 : Mem, MemSub m m1 → ∀ x11 : Int, IntKind.i64.min ≤ x11 → x11 ≤ IntKind.i64.max → cChk_post x0 x1 x2 x3 x4 x5 x6 (p0.map fun p => p.add 0) n0 c0 m1 x11 →
 ((x11 ≠ 0 →
 ((K.i64 x11) ∧ aRat_post x0 x1 x2 x3 x4 x5 x6 p0 n0 c0 p1 n1 c1 m1 none 0 0 x11)) ∧
 (x11 = 0 →
 ((n1 ≤ 9223372036854775807 ∧ c1 ≤ 9223372036854775807) ∧ tChk_pre (p1.map fun p => p.add 0) n1 c1 (n0 : Int) m1 ∧ ∀ m2 : Mem, MemSub m1 m2 → ∀ x12 : Int, IntKind.i64.min ≤ x12 → x12 ≤ IntKind.i64.max → ∀ x13 : Int, IntKind.i64.min ≤ x13 → x13 ≤ IntKind.i64.max → tChk_post (p1.map fun p => p.add 0) n1 c1 (n0 : Int) m2 x12 x13 →
 ((x13 ≠ 0 →
 ((K.i64 x13) ∧ aRat_post x0 x1 x2 x3 x4 x5 x6 p0 n0 c0 p1 n1 c1 m2 none 0 0 x13)) ∧
 (x13 = 0 →
 ((0 ≤ (n0 : Int) ∧ (n0 : Int) ≤ 1000000) ∧ ∀ (p2 : Addr) (r0 : List Value), r0 = repl ((n0 : Int)).toNat [(Value.int IntKind.i64 0), (Value.int IntKind.i64 0), (Value.int IntKind.i64 0)] → (∃ F3 : Int → List Value → Prop × Nat, ((K.i64 0) ∧ (F3 0 r0).1) ∧
 ∀ x14 : Int, IntKind.i64.min ≤ x14 → x14 ≤ IntKind.i64.max → ∀ r1 : List Value, (F3 x14 r1).1 →
 ((x14 < (n0 : Int) →
 (0 ≤ x14 ∧ (p0 ≠ none ∧ (HasI m2 p0 (0 + (x14 * 30)) 30 ∧ (0 ≤ x14 ∧ ((some p2) ≠ none ∧ (∃ x15 : Int, cellI m2 p0 ((0 + (x14 * 30)) + 21) = some (Value.int IntKind.i64 x15) ∧ (K.i64 x15) ∧ (∃ x16 : Int, cellI m2 p0 ((0 + (x14 * 30)) + 22) = some (Value.int IntKind.i64 x16) ∧ (K.i64 x16) ∧ ((0 ≤ (0 + (x14 * 3)) ∧ (0 + (x14 * 3)) + 2 ≤ (r1.length : Int)) ∧ ∀ r2 : List Value, r2 = lsetAll r1 ((0 + (x14 * 3))).toNat [(Value.int IntKind.i64 x15), (Value.int IntKind.i64 x16)] → ((x14 + 1) ≤ 9223372036854775807 ∧ ((IntKind.i64.min ≤ (x14 + 1) ∧ (x14 + 1) ≤ IntKind.i64.max) ∧ ((F3 (x14 + 1) r2).1 ∧ (F3 (x14 + 1) r2).2 < (F3 x14 r1).2)))))))))))) ∧
 ((n0 : Int) ≤ x14 →
 (∃ F4 : Option Addr → Nat → Nat → Int → Int → List Value → List Value → Prop × Nat, ((K.i64 0) ∧ (K.i64 0) ∧ (F4 none 0 0 0 0 [] r1).1) ∧
 ∀ (p3 : Option Addr) (n3 c3 : Nat), n3 ≤ 9223372036854775807 → c3 ≤ 9223372036854775807 → ∀ x17 : Int, IntKind.i64.min ≤ x17 → x17 ≤ IntKind.i64.max → ∀ x18 : Int, IntKind.i64.min ≤ x18 → x18 ≤ IntKind.i64.max → ∀ r2 : List Value, ∀ r3 : List Value, (F4 p3 n3 c3 x17 x18 r2 r3).1 →
 ((x17 < (n1 : Int) →
 (0 ≤ x17 ∧ (p1 ≠ none ∧ (HasI m2 p1 (0 + (x17 * 8)) 8 ∧ (∃ x19 : Int, cellI m2 p1 (0 + (x17 * 8)) = some (Value.int IntKind.i64 x19) ∧ (K.i64 x19) ∧ ((x19 ≠ 1 →
 ((x17 + 1) ≤ 9223372036854775807 ∧ ((n3 ≤ 9223372036854775807 ∧ c3 ≤ 9223372036854775807) ∧ (IntKind.i64.min ≤ (x17 + 1) ∧ (x17 + 1) ≤ IntKind.i64.max) ∧ (K.i64 x18) ∧ ((F4 (p3.map fun p => p.add 0) n3 c3 (x17 + 1) x18 r2 r3).1 ∧ (F4 (p3.map fun p => p.add 0) n3 c3 (x17 + 1) x18 r2 r3).2 < (F4 p3 n3 c3 x17 x18 r2 r3).2)))) ∧
 (x19 = 1 →
 (∃ x20 : Int, cellI m2 p1 ((0 + (x17 * 8)) + 1) = some (Value.int IntKind.i64 x20) ∧ (K.i64 x20) ∧ ((0 < x5 →
 ((-9223372036854775808 : Int) ≤ (x18 - x6) ∧ ((x18 - x6) ≤ 9223372036854775807 ∧ (∀ x21 : Int, x21 = (bif true then max x18 x20 else min x18 x20) → (K.i64 x21) ∧ ((x21 + x5) ≤ 9223372036854775807 ∧ (∃ x22 : Int, cellI m2 p1 ((0 + (x17 * 8)) + 2) = some (Value.int IntKind.i64 x22) ∧ (K.i64 x22) ∧ (0 ≤ x22 ∧ (x22 < (n0 : Int) ∧ ((some p2) ≠ none ∧ ((0 ≤ (0 + (x22 * 3)) ∧ (0 + (x22 * 3)) + 1 ≤ (r3.length : Int)) ∧ (∃ x23 : Int, rowI r3 (0 + (x22 * 3)) = some (Value.int IntKind.i64 x23) ∧ (K.i64 x23) ∧ ((0 < x23 →
 ((0 ≤ ((0 + (x22 * 3)) + 2) ∧ ((0 + (x22 * 3)) + 2) + 1 ≤ (r3.length : Int)) ∧ (∃ x24 : Int, rowI r3 ((0 + (x22 * 3)) + 2) = some (Value.int IntKind.i64 x24) ∧ (K.i64 x24) ∧ ((0 ≤ ((0 + (x22 * 3)) + 1) ∧ ((0 + (x22 * 3)) + 1) + 1 ≤ (r3.length : Int)) ∧ (∃ x25 : Int, rowI r3 ((0 + (x22 * 3)) + 1) = some (Value.int IntKind.i64 x25) ∧ (K.i64 x25) ∧ ((-9223372036854775808 : Int) ≤ (x24 - x25) ∧ ((x24 - x25) ≤ 9223372036854775807 ∧ ((0 ≤ ((0 + (x22 * 3)) + 2) ∧ ((0 + (x22 * 3)) + 2) + 1 ≤ (r3.length : Int)) ∧ (∀ x26 : Int, x26 = (bif true then max x24 x20 else min x24 x20) → (K.i64 x26) ∧ ((0 ≤ (0 + (x22 * 3)) ∧ (0 + (x22 * 3)) + 1 ≤ (r3.length : Int)) ∧ ((x26 + x23) ≤ 9223372036854775807 ∧ ((0 ≤ ((0 + (x22 * 3)) + 2) ∧ ((0 + (x22 * 3)) + 2) + 1 ≤ (r3.length : Int)) ∧ ∀ r4 : List Value, r4 = lsetAll r3 (((0 + (x22 * 3)) + 2)).toNat [(Value.int IntKind.i64 (x26 + x23))] → ((x20 < (x18 - x6) →
 ((2 * ((n3 : Int) + 1) * 16 ≤ 281474976710656) ∧ ∀ (p4 : Addr) (c4 : Nat) (r5 : List Value), r5 = r2 ++ [(Value.int IntKind.i64 3), (Value.int IntKind.i64 x17)] → (n3 : Int) + 1 ≤ (c4 : Int) → c4 ≤ 9223372036854775807 → ((x17 + 1) ≤ 9223372036854775807 ∧ (((Int.toNat ((n3 : Int) + 1)) ≤ 9223372036854775807 ∧ c4 ≤ 9223372036854775807) ∧ (IntKind.i64.min ≤ (x17 + 1) ∧ (x17 + 1) ≤ IntKind.i64.max) ∧ (K.i64 (x21 + x5)) ∧ ((F4 ((some p4).map fun p => p.add 0) (Int.toNat ((n3 : Int) + 1)) c4 (x17 + 1) (x21 + x5) r5 r4).1 ∧ (F4 ((some p4).map fun p => p.add 0) (Int.toNat ((n3 : Int) + 1)) c4 (x17 + 1) (x21 + x5) r5 r4).2 < (F4 p3 n3 c3 x17 x18 r2 r3).2))))) ∧
 ((x18 - x6) ≤ x20 →
 ((x20 < (x24 - x25) →
 ((2 * ((n3 : Int) + 1) * 16 ≤ 281474976710656) ∧ ∀ (p4 : Addr) (c4 : Nat) (r5 : List Value), r5 = r2 ++ [(Value.int IntKind.i64 3), (Value.int IntKind.i64 x17)] → (n3 : Int) + 1 ≤ (c4 : Int) → c4 ≤ 9223372036854775807 → ((x17 + 1) ≤ 9223372036854775807 ∧ (((Int.toNat ((n3 : Int) + 1)) ≤ 9223372036854775807 ∧ c4 ≤ 9223372036854775807) ∧ (IntKind.i64.min ≤ (x17 + 1) ∧ (x17 + 1) ≤ IntKind.i64.max) ∧ (K.i64 (x21 + x5)) ∧ ((F4 ((some p4).map fun p => p.add 0) (Int.toNat ((n3 : Int) + 1)) c4 (x17 + 1) (x21 + x5) r5 r4).1 ∧ (F4 ((some p4).map fun p => p.add 0) (Int.toNat ((n3 : Int) + 1)) c4 (x17 + 1) (x21 + x5) r5 r4).2 < (F4 p3 n3 c3 x17 x18 r2 r3).2))))) ∧
 ((x24 - x25) ≤ x20 →
 ((x17 + 1) ≤ 9223372036854775807 ∧ ((n3 ≤ 9223372036854775807 ∧ c3 ≤ 9223372036854775807) ∧ (IntKind.i64.min ≤ (x17 + 1) ∧ (x17 + 1) ≤ IntKind.i64.max) ∧ (K.i64 (x21 + x5)) ∧ ((F4 (p3.map fun p => p.add 0) n3 c3 (x17 + 1) (x21 + x5) r2 r4).1 ∧ (F4 (p3.map fun p => p.add 0) n3 c3 (x17 + 1) (x21 + x5) r2 r4).2 < (F4 p3 n3 c3 x17 x18 r2 r3).2))))))))))))))))))) ∧
 (x23 ≤ 0 →
 ((0 ≤ ((0 + (x22 * 3)) + 2) ∧ ((0 + (x22 * 3)) + 2) + 1 ≤ (r3.length : Int)) ∧ (∃ x24 : Int, rowI r3 ((0 + (x22 * 3)) + 2) = some (Value.int IntKind.i64 x24) ∧ (K.i64 x24) ∧ (∀ x25 : Int, x25 = (bif true then max x24 x20 else min x24 x20) → (K.i64 x25) ∧ ((0 ≤ (0 + (x22 * 3)) ∧ (0 + (x22 * 3)) + 1 ≤ (r3.length : Int)) ∧ ((-9223372036854775808 : Int) ≤ (x25 + x23) ∧ ((0 ≤ ((0 + (x22 * 3)) + 2) ∧ ((0 + (x22 * 3)) + 2) + 1 ≤ (r3.length : Int)) ∧ ∀ r4 : List Value, r4 = lsetAll r3 (((0 + (x22 * 3)) + 2)).toNat [(Value.int IntKind.i64 (x25 + x23))] → ((x20 < (x18 - x6) →
 ((2 * ((n3 : Int) + 1) * 16 ≤ 281474976710656) ∧ ∀ (p4 : Addr) (c4 : Nat) (r5 : List Value), r5 = r2 ++ [(Value.int IntKind.i64 3), (Value.int IntKind.i64 x17)] → (n3 : Int) + 1 ≤ (c4 : Int) → c4 ≤ 9223372036854775807 → ((x17 + 1) ≤ 9223372036854775807 ∧ (((Int.toNat ((n3 : Int) + 1)) ≤ 9223372036854775807 ∧ c4 ≤ 9223372036854775807) ∧ (IntKind.i64.min ≤ (x17 + 1) ∧ (x17 + 1) ≤ IntKind.i64.max) ∧ (K.i64 (x21 + x5)) ∧ ((F4 ((some p4).map fun p => p.add 0) (Int.toNat ((n3 : Int) + 1)) c4 (x17 + 1) (x21 + x5) r5 r4).1 ∧ (F4 ((some p4).map fun p => p.add 0) (Int.toNat ((n3 : Int) + 1)) c4 (x17 + 1) (x21 + x5) r5 r4).2 < (F4 p3 n3 c3 x17 x18 r2 r3).2))))) ∧
 ((x18 - x6) ≤ x20 →
 ((x17 + 1) ≤ 9223372036854775807 ∧ ((n3 ≤ 9223372036854775807 ∧ c3 ≤ 9223372036854775807) ∧ (IntKind.i64.min ≤ (x17 + 1) ∧ (x17 + 1) ≤ IntKind.i64.max) ∧ (K.i64 (x21 + x5)) ∧ ((F4 (p3.map fun p => p.add 0) n3 c3 (x17 + 1) (x21 + x5) r2 r4).1 ∧ (F4 (p3.map fun p => p.add 0) n3 c3 (x17 + 1) (x21 + x5) r2 r4).2 < (F4 p3 n3 c3 x17 x18 r2 r3).2)))))))))))))))))))))))) ∧
 (x5 ≤ 0 →
 (∀ x21 : Int, x21 = (bif true then max x18 x20 else min x18 x20) → (K.i64 x21) ∧ ((-9223372036854775808 : Int) ≤ (x21 + x5) ∧ (∃ x22 : Int, cellI m2 p1 ((0 + (x17 * 8)) + 2) = some (Value.int IntKind.i64 x22) ∧ (K.i64 x22) ∧ (0 ≤ x22 ∧ (x22 < (n0 : Int) ∧ ((some p2) ≠ none ∧ ((0 ≤ (0 + (x22 * 3)) ∧ (0 + (x22 * 3)) + 1 ≤ (r3.length : Int)) ∧ (∃ x23 : Int, rowI r3 (0 + (x22 * 3)) = some (Value.int IntKind.i64 x23) ∧ (K.i64 x23) ∧ ((0 < x23 →
 ((0 ≤ ((0 + (x22 * 3)) + 2) ∧ ((0 + (x22 * 3)) + 2) + 1 ≤ (r3.length : Int)) ∧ (∃ x24 : Int, rowI r3 ((0 + (x22 * 3)) + 2) = some (Value.int IntKind.i64 x24) ∧ (K.i64 x24) ∧ ((0 ≤ ((0 + (x22 * 3)) + 1) ∧ ((0 + (x22 * 3)) + 1) + 1 ≤ (r3.length : Int)) ∧ (∃ x25 : Int, rowI r3 ((0 + (x22 * 3)) + 1) = some (Value.int IntKind.i64 x25) ∧ (K.i64 x25) ∧ ((-9223372036854775808 : Int) ≤ (x24 - x25) ∧ ((x24 - x25) ≤ 9223372036854775807 ∧ ((0 ≤ ((0 + (x22 * 3)) + 2) ∧ ((0 + (x22 * 3)) + 2) + 1 ≤ (r3.length : Int)) ∧ (∀ x26 : Int, x26 = (bif true then max x24 x20 else min x24 x20) → (K.i64 x26) ∧ ((0 ≤ (0 + (x22 * 3)) ∧ (0 + (x22 * 3)) + 1 ≤ (r3.length : Int)) ∧ ((x26 + x23) ≤ 9223372036854775807 ∧ ((0 ≤ ((0 + (x22 * 3)) + 2) ∧ ((0 + (x22 * 3)) + 2) + 1 ≤ (r3.length : Int)) ∧ ∀ r4 : List Value, r4 = lsetAll r3 (((0 + (x22 * 3)) + 2)).toNat [(Value.int IntKind.i64 (x26 + x23))] → ((x20 < (x24 - x25) →
 ((2 * ((n3 : Int) + 1) * 16 ≤ 281474976710656) ∧ ∀ (p4 : Addr) (c4 : Nat) (r5 : List Value), r5 = r2 ++ [(Value.int IntKind.i64 3), (Value.int IntKind.i64 x17)] → (n3 : Int) + 1 ≤ (c4 : Int) → c4 ≤ 9223372036854775807 → ((x17 + 1) ≤ 9223372036854775807 ∧ (((Int.toNat ((n3 : Int) + 1)) ≤ 9223372036854775807 ∧ c4 ≤ 9223372036854775807) ∧ (IntKind.i64.min ≤ (x17 + 1) ∧ (x17 + 1) ≤ IntKind.i64.max) ∧ (K.i64 (x21 + x5)) ∧ ((F4 ((some p4).map fun p => p.add 0) (Int.toNat ((n3 : Int) + 1)) c4 (x17 + 1) (x21 + x5) r5 r4).1 ∧ (F4 ((some p4).map fun p => p.add 0) (Int.toNat ((n3 : Int) + 1)) c4 (x17 + 1) (x21 + x5) r5 r4).2 < (F4 p3 n3 c3 x17 x18 r2 r3).2))))) ∧
 ((x24 - x25) ≤ x20 →
 ((x17 + 1) ≤ 9223372036854775807 ∧ ((n3 ≤ 9223372036854775807 ∧ c3 ≤ 9223372036854775807) ∧ (IntKind.i64.min ≤ (x17 + 1) ∧ (x17 + 1) ≤ IntKind.i64.max) ∧ (K.i64 (x21 + x5)) ∧ ((F4 (p3.map fun p => p.add 0) n3 c3 (x17 + 1) (x21 + x5) r2 r4).1 ∧ (F4 (p3.map fun p => p.add 0) n3 c3 (x17 + 1) (x21 + x5) r2 r4).2 < (F4 p3 n3 c3 x17 x18 r2 r3).2))))))))))))))))) ∧
 (x23 ≤ 0 →
 ((0 ≤ ((0 + (x22 * 3)) + 2) ∧ ((0 + (x22 * 3)) + 2) + 1 ≤ (r3.length : Int)) ∧ (∃ x24 : Int, rowI r3 ((0 + (x22 * 3)) + 2) = some (Value.int IntKind.i64 x24) ∧ (K.i64 x24) ∧ (∀ x25 : Int, x25 = (bif true then max x24 x20 else min x24 x20) → (K.i64 x25) ∧ ((0 ≤ (0 + (x22 * 3)) ∧ (0 + (x22 * 3)) + 1 ≤ (r3.length : Int)) ∧ ((-9223372036854775808 : Int) ≤ (x25 + x23) ∧ ((0 ≤ ((0 + (x22 * 3)) + 2) ∧ ((0 + (x22 * 3)) + 2) + 1 ≤ (r3.length : Int)) ∧ ∀ r4 : List Value, r4 = lsetAll r3 (((0 + (x22 * 3)) + 2)).toNat [(Value.int IntKind.i64 (x25 + x23))] → ((x17 + 1) ≤ 9223372036854775807 ∧ ((n3 ≤ 9223372036854775807 ∧ c3 ≤ 9223372036854775807) ∧ (IntKind.i64.min ≤ (x17 + 1) ∧ (x17 + 1) ≤ IntKind.i64.max) ∧ (K.i64 (x21 + x5)) ∧ ((F4 (p3.map fun p => p.add 0) n3 c3 (x17 + 1) (x21 + x5) r2 r4).1 ∧ (F4 (p3.map fun p => p.add 0) n3 c3 (x17 + 1) (x21 + x5) r2 r4).2 < (F4 p3 n3 c3 x17 x18 r2 r3).2))))))))))))))))))))))))))))) ∧
 ((n1 : Int) ≤ x17 →
 (∀ m5 : Mem, MemSub m2 m5 → RowAt m5 p3 r2 → ((n3 ≤ 9223372036854775807 ∧ c3 ≤ 9223372036854775807) ∧ (K.i64 0) ∧ aRat_post x0 x1 x2 x3 x4 x5 x6 p0 n0 c0 p1 n1 c1 m5 (p3.map fun p => p.add 0) n3 c3 0)))))))))))))))
set_option maxHeartbeats 4000000 in
theorem aRat_vc : aRat_VC := by
  intro m x0 _ _ x1 _ _ x2 _ _ x3 _ _ x4 _ _ x5 k5 k5' x6 k6 k6' p0 n0 c0 hn0 hc0 p1 n1 c1 hn1 hc1 ⟨⟨hgl, hb⟩, L, l, hL, hl⟩
  have hLn := hL.1
  have hln := hl.1
  have ps : ∀ (m' : Mem) (q : Option Addr) (n2 c2 : Nat) (z : Int), MemSub m m' → z = auE x0 x1 x2 x3 x5 x6 L l → RowM m' q (flRow 3 (auI x0 x1 x2 x3 x5 x6 L l (rateP x5 x6 L))) → n2 = (auI x0 x1 x2 x3 x5 x6 L l (rateP x5 x6 L)).length → aRat_post x0 x1 x2 x3 x4 x5 x6 p0 n0 c0 p1 n1 c1 m' q n2 c2 z := by
    intro m' q n2 c2 z h e1 e2 e3 L' l' hL' hl'
    rw [← hL.uniq h hL', ← hl.uniq h hl']
    exact ⟨e1, e2, e3⟩
  have none_ : ∀ m' : Mem, RowM m' none [] := fun m' => ⟨(fun p h => by cases h), fun _ => rfl⟩
  refine ⟨⟨hn0, hc0⟩, ⟨hgl, L, by rw [map_add0]; exact hL⟩, fun m1 hm1 e ek1 ek2 he => ?_⟩
  rw [map_add0] at he
  have he : e = cfgE x0 x1 x2 x3 x5 x6 L := he L (hL.sub hm1)
  refine ⟨fun hne => ?_, fun h0 => ?_⟩
  · have ha : auE x0 x1 x2 x3 x5 x6 L l = e := by unfold auE; rw [← he, if_pos hne]
    have hi : auI x0 x1 x2 x3 x5 x6 L l (rateP x5 x6 L) = [] := by unfold auI; rw [ha, if_neg hne]
    exact ⟨⟨ek1, ek2⟩, ps m1 none 0 0 e hm1 ha.symm (by rw [hi]; exact none_ _) (by rw [hi]; rfl)⟩
  have hc : cfgE x0 x1 x2 x3 x5 x6 L = 0 := by rw [← he]; exact h0
  refine ⟨⟨hn1, hc1⟩, ?_⟩
  rw [map_add0]
  refine ⟨?_, fun m2 hm2 y yk1 yk2 g gk1 gk2 hg => ?_⟩
  · exact ⟨l, hl.sub hm1⟩
  have hg0 : (y, g) = trcE (n0 : Int) l := hg l (hl.sub hm1 |>.sub hm2)
  have hc0' : cfgE x0 x1 x2 x3 x5 x6 L = 0 := hc
  have ha : auE x0 x1 x2 x3 x5 x6 L l = g := by unfold auE; rw [if_neg (by rw [hc]; simp), hLn, ← hg0]
  refine ⟨fun hne => ?_, fun g0 => ?_⟩
  · have hi : auI x0 x1 x2 x3 x5 x6 L l (rateP x5 x6 L) = [] := by unfold auI; rw [ha, if_neg hne]
    exact ⟨⟨gk1, gk2⟩, ps m2 none 0 0 g (hm1.trans hm2) ha.symm (by rw [hi]; exact none_ _) (by rw [hi]; rfl)⟩
  rw [g0] at hg0 ha
  have hi : auI x0 x1 x2 x3 x5 x6 L l (rateP x5 x6 L) = idxs (marks (rateP x5 x6 L) l l.length) 0 := by unfold auI; rw [ha, if_pos rfl]
  obtain ⟨hjl, hev⟩ := trcE_ok hg0
  obtain ⟨h64, ⟨hT, hTau⟩, hjob⟩ := cfg_ok hc
  have hL2 := (hL.sub hm1).sub hm2
  have hl2 := (hl.sub hm1).sub hm2
  have kz : K.i64 0 := by constructor <;> decide
  refine ⟨⟨by omega, by omega⟩, fun p2 r0 hr0 => ?_⟩
  have hr0l : r0.length = 3 * n0 := by rw [hr0, repl_length]; simp; omega
  refine ⟨fun y r => (∃ i : Nat, y = i ∧ i ≤ n0 ∧ r.length = 3 * n0 ∧ (∀ j, j < n0 → r[3 * j + 2]? = some (.int .i64 0)) ∧ ∀ j J, j < i → L[j]? = some J → r[3 * j]? = some (.int .i64 J.pol.lim.t) ∧ r[3 * j + 1]? = some (.int .i64 J.pol.lim.tau), ((n0 : Int) - y).toNat), ⟨kz, 0, rfl, by omega, hr0l, fun j hj => ?_, fun j J hj => by omega⟩, ?_⟩
  · rw [hr0, repl_get _ _ _ (by simp; omega)]
    have : (3 * j + 2) % 3 = 2 := by omega
    simp [this]
  rintro y2 yk3 yk4 r1 ⟨i, rfl, hi0, hr1l, hz, hlim⟩
  refine ⟨fun hlt => ?_, fun hge => ?_⟩
  · obtain ⟨J, hJ, hat⟩ := hL2.at_ (i := (i : Int)) (by omega) hlt
    rw [Int.toNat_natCast] at hJ
    obtain ⟨⟨q1, q2⟩, _, _, hp⟩ := hat
    have e1 : (0 + (i : Int) * 3).toNat = 3 * i := by omega
    have hlen : 3 * i + [Value.int IntKind.i64 J.pol.lim.t, .int .i64 J.pol.lim.tau].length ≤ r1.length := by simp only [List.length_cons, List.length_nil]; omega
    refine ⟨by omega, q1, q2, by omega, by simp, _, hp.2.2.2.2.2.2.1.1, hp.2.2.2.2.2.2.1.2, _, hp.2.2.2.2.2.2.2.1.1, hp.2.2.2.2.2.2.2.1.2, ⟨by omega, by omega⟩, fun r2 hr2 => ⟨by omega, k64 (by omega) (by omega), ⟨i + 1, by omega, by omega, ?_, fun j hj => ?_, fun j T hj hT2 => ?_⟩, by first | omega | (simp only; omega)⟩⟩
    · rw [hr2, lsetAll_length]; exact hr1l
    · rw [hr2, e1, lset_get _ _ _ _ hlen, if_neg (by simp only [List.length_cons, List.length_nil]; omega)]
      exact hz j hj
    · rw [hr2, e1, lset_get _ _ _ _ hlen, lset_get _ _ _ _ hlen]
      simp only [List.length_cons, List.length_nil]
      by_cases e : j = i
      · subst e
        rw [hJ] at hT2; cases hT2
        rw [if_pos (by omega), if_pos (by omega)]
        have : 3 * j + 1 - 3 * j = 1 := by omega
        rw [this, Nat.sub_self]
        exact ⟨rfl, rfl⟩
      · rw [if_neg (by omega), if_neg (by omega)]
        exact hlim j T (by omega) hT2
  have hin : i = n0 := by omega
  subst hin
  have how : OwnAt r1 L (l.take 0) := ⟨by omega, fun j J hJ => by
    have hjl := (List.getElem?_eq_some_iff.1 hJ).1
    obtain ⟨g1, g2⟩ := hlim j J (by omega) hJ
    exact ⟨g1, g2, hz j (by omega)⟩⟩
  refine ⟨fun q n c y v r2 r3 => (ratInv x5 x6 L l q n y v r2 r3, ((n1 : Int) - y).toNat), ⟨kz, kz, 0, rfl, by omega, rfl, rfl, rfl, fun _ => rfl, how⟩, ?_⟩
  rintro p3 n3 c3 hn3 hc3 y3 yk5 yk6 v vk1 vk2 r2 r3 ⟨i, rfl, hil, hv, hr2, hn3', hq, hown⟩
  refine ⟨fun hlt => ?_, fun hge => ?_⟩
  rotate_left
  · intro m5 hm5 hrow
    have e : i = l.length := by omega
    subst e
    rw [map_add0]
    refine ⟨⟨hn3, hc3⟩, kz, ps m5 p3 n3 c3 0 ((hm1.trans hm2).trans hm5) ha.symm ?_ ?_⟩
    · rw [hi, ← hr2]; exact ⟨hrow, hq⟩
    · rw [hi]; exact hn3'
  obtain ⟨x, hx, hpn, hat, hhas⟩ := hl2.at_ (i := (i : Int)) (by omega) hlt
  rw [Int.toNat_natCast] at hx
  have hva := evErr_valid (hev i x hx)
  have htk : l.take (i + 1) = l.take i ++ [x] := by
    obtain ⟨hx1, hx2⟩ := List.getElem?_eq_some_iff.1 hx
    rw [← hx2, List.take_append_getElem hx1]
  have hb' : l.length ≤ 1000000 := by omega
  have hat0 := evP_time hva.1
  refine ⟨by omega, hpn, hhas, x.kind, hat.1.1, hat.1.2, fun hk => ?_, fun hk => ?_⟩
  · refine rat_miss (x := x) hx hb' hln hr2 hn3' hq (by simp [rateP, hk]) ?_ ⟨vk1, vk2⟩ ?_ ⟨hn3, hc3⟩
    · rw [htk, lat_snoc, if_neg (fun g => hk g.1), List.append_nil]; exact hv
    · rw [htk]; exact hown.skip hk
  have hj0 := evP_job hva.1 (by omega)
  have hj1 := hva.2.1 (by omega)
  obtain ⟨j, hj⟩ := Int.eq_ofNat_of_zero_le hj0
  have hjl2 : j < L.length := by omega
  have hJ : L[j]? = some L[j] := List.getElem?_eq_getElem hjl2
  generalize L[j] = J at hJ
  obtain ⟨o1, o2, o3⟩ := hown.2 j J hJ
  obtain ⟨_, hJT, hJTau⟩ := hjob J (List.mem_of_getElem? hJ)
  have hts : ∀ z ∈ l.take i, z.at_ ≤ 253402300799 := by
    intro z hz'
    obtain ⟨k, hk'⟩ := List.getElem?_of_mem (List.mem_of_mem_take hz')
    exact (evP_time (evErr_valid (hev k z hk')).1).2
  have htl : (l.take i).length ≤ 1000000 := by rw [List.length_take]; omega
  have hs1 := next_span (q := allq) hT htl hts
  have hs2 := next_span (q := jq j) hJT htl hts
  rw [← hv] at hs1
  have hvn : max v x.at_ + x5 = nextOf x5 (lat allq (l.take (i + 1))) := by
    rw [htk, lat_snoc, if_pos ⟨hk, rfl⟩, next_snoc, ← hv]
  generalize hw : nextOf J.pol.lim.t (lat (jq j) (l.take i)) = w at o3 hs2
  have hm1' := Int.le_max_left v x.at_
  have hm2' := Int.le_max_right v x.at_
  have hm3' : max v x.at_ ≤ 69000000000000000 := Int.max_le.2 ⟨hs1.2, by omega⟩
  have hm4' := Int.le_max_left w x.at_
  have hm5' := Int.le_max_right w x.at_
  have hm6' : max w x.at_ ≤ 69000000000000000 := Int.max_le.2 ⟨hs2.2, by omega⟩
  have hrate : rateP x5 x6 L (l.take i) x = ((decide (0 < x5) && decide (x.at_ < v - x6)) || (decide (0 < J.pol.lim.t) && decide (x.at_ < w - J.pol.lim.tau))) := by
    unfold rateP As.early
    rw [hj, Int.toNat_natCast, hJ]
    simp only [hk, decide_true, Bool.true_and]
    rw [← hv, hw]
  have hrl := hown.1
  have i0 : rowI r3 (0 + x.job * 3) = some (.int .i64 J.pol.lim.t) := rowI_to (rowI_at o1 rfl) (by omega)
  have i1 : rowI r3 ((0 + x.job * 3) + 1) = some (.int .i64 J.pol.lim.tau) := rowI_to (rowI_at o2 rfl) (by omega)
  have i2 : rowI r3 ((0 + x.job * 3) + 2) = some (.int .i64 w) := rowI_to (rowI_at o3 rfl) (by omega)
  have hst : ((0 + x.job * 3) + 2).toNat = 3 * j + 2 := by omega
  have hown' : ∀ r4 : List Value, r4 = lsetAll r3 ((0 + x.job * 3) + 2).toNat [.int .i64 (max w x.at_ + J.pol.lim.t)] → OwnAt r4 L (l.take (i + 1)) := by
    intro r4 hr4
    rw [htk, hr4, hst]
    exact hown.step hk hj hJ (by rw [hw])
  have kv : K.i64 (max v x.at_ + x5) := k64 (by omega) (by omega)
  have hit := fun r4 hr4 hf => rat_hit (v := max v x.at_ + x5) (r4 := r4) (x := x) hx hb' hln hr2 hn3' hf hvn kv (hown' r4 hr4)
  have mis := fun r4 hr4 hf => rat_miss (c := c3) (v := max v x.at_ + x5) (r4 := r4) (x := x) hx hb' hln hr2 hn3' hq hf hvn kv (hown' r4 hr4) ⟨hn3, hc3⟩
  refine ⟨x.at_, hat.2.1.1, hat.2.1.2, fun h5 => ⟨by omega, by omega, fun z hz' => ?_⟩, fun h5 z hz' => ?_⟩
  · simp only [cond_true] at hz'
    subst hz'
    refine ⟨k64 (by omega) (by omega), by omega, x.job, hat.2.2.1.1, hat.2.2.1.2, by omega, by omega, by simp, ⟨by omega, by omega⟩, _, i0, k64 (by omega) (by omega), fun hp => ⟨⟨by omega, by omega⟩, _, i2, k64 (by omega) (by omega), ⟨by omega, by omega⟩, _, i1, k64 (by omega) (by omega), by omega, by omega, ⟨by omega, by omega⟩, fun z2 hz2 => ?_⟩, fun hp => ⟨⟨by omega, by omega⟩, _, i2, k64 (by omega) (by omega), fun z2 hz2 => ?_⟩⟩
    · simp only [cond_true] at hz2
      subst hz2
      refine ⟨k64 (by omega) (by omega), ⟨by omega, by omega⟩, by omega, ⟨by omega, by omega⟩, fun r4 hr4 => ⟨fun hA => ?_, fun hA => ⟨fun hB => ?_, fun hB => ?_⟩⟩⟩
      · exact hit r4 hr4 (by rw [hrate]; simp [h5, hA])
      · exact hit r4 hr4 (by rw [hrate]; simp [hp, hB])
      · exact mis r4 hr4 (by rw [hrate]; simp; exact ⟨fun _ => hA, fun _ => hB⟩)
    · simp only [cond_true] at hz2
      subst hz2
      refine ⟨k64 (by omega) (by omega), ⟨by omega, by omega⟩, by omega, ⟨by omega, by omega⟩, fun r4 hr4 => ⟨fun hA => ?_, fun hA => ?_⟩⟩
      · exact hit r4 hr4 (by rw [hrate]; simp [h5, hA])
      · exact mis r4 hr4 (by rw [hrate]; simp; exact ⟨fun _ => hA, fun h => by omega⟩)
  · simp only [cond_true] at hz'
    subst hz'
    refine ⟨k64 (by omega) (by omega), by omega, x.job, hat.2.2.1.1, hat.2.2.1.2, by omega, by omega, by simp, ⟨by omega, by omega⟩, _, i0, k64 (by omega) (by omega), fun hp => ⟨⟨by omega, by omega⟩, _, i2, k64 (by omega) (by omega), ⟨by omega, by omega⟩, _, i1, k64 (by omega) (by omega), by omega, by omega, ⟨by omega, by omega⟩, fun z2 hz2 => ?_⟩, fun hp => ⟨⟨by omega, by omega⟩, _, i2, k64 (by omega) (by omega), fun z2 hz2 => ?_⟩⟩
    · simp only [cond_true] at hz2
      subst hz2
      refine ⟨k64 (by omega) (by omega), ⟨by omega, by omega⟩, by omega, ⟨by omega, by omega⟩, fun r4 hr4 => ⟨fun hB => ?_, fun hB => ?_⟩⟩
      · exact hit r4 hr4 (by rw [hrate]; simp [hp, hB])
      · exact mis r4 hr4 (by rw [hrate]; simp; exact ⟨fun h => by omega, fun _ => hB⟩)
    · simp only [cond_true] at hz2
      subst hz2
      refine ⟨k64 (by omega) (by omega), ⟨by omega, by omega⟩, by omega, ⟨by omega, by omega⟩, fun r4 hr4 => ?_⟩
      exact mis r4 hr4 (by rw [hrate]; simp; exact ⟨fun h => by omega, fun h => by omega⟩)
theorem aRat_pg : ∀ m, forallF aRat.args aRat.spec fun r => r.1 m → GlobsAt m [] := fun m a b c d s t u p n cc p1 n1 c1 h => trivial
theorem aRat_ok : SpOk Tryz.prog aRat :=
  con_okZ [] [] [] rfl (sps_of [cChk, tChk] ⟨cChk_ok, ⟨tChk_ok, trivial⟩⟩ rfl) (tab_ok _ [⟨(44, 6), [], [], [], [2]⟩, ⟨(29, 3), [(4, 2, .i .i64)], [], [(7, 39)], [2]⟩]) 1000 aRat _ rfl rfl aRat_pg (Eq.mp (show aRat_VC = _ by kernel_rfl) aRat_vc)
end Go.Proofs.YtfpfagmmdiohbaaGreatDoor.Vc
set_option linter.unusedVariables false
set_option linter.unusedSimpArgs false
namespace Go.Proofs.YtfpfagmmdiohbaaGreatDoor.Vc
open As
def AllPre {α : Type} (P : List α → α → Prop) (M : List α) : Prop := ∀ (k : Nat) (b : α), M[k]? = some b → P (M.take k) b
theorem allPre_snoc {α : Type} {P : List α → α → Prop} {M : List α} {b : α} : AllPre P (M ++ [b]) ↔ AllPre P M ∧ P M b := by
  constructor
  · intro h
    refine ⟨fun k c hk => ?_, ?_⟩
    · have hl := (List.getElem?_eq_some_iff.1 hk).1
      have := h k c (by rw [List.getElem?_append_left hl]; exact hk)
      rwa [List.take_append_of_le_length (by omega)] at this
    · have := h M.length b (by simp)
      simpa using this
  · rintro ⟨h1, h2⟩ k c hk
    rcases Nat.lt_or_ge k M.length with hl | hl
    · rw [List.getElem?_append_left hl] at hk
      rw [List.take_append_of_le_length (by omega)]
      exact h1 k c hk
    · have hlt := (List.getElem?_eq_some_iff.1 hk).1
      rw [List.length_append] at hlt
      have e : k = M.length := by simp at hlt; omega
      subst e
      simp at hk
      subst hk
      simpa using h2
theorem allPre_lat (q : Ev → Bool) (P : List Int → Int → Prop) : ∀ (n : Nat) (l : List Ev), l.length = n → (AllPre P (lat q l) ↔ AllPre (fun p x => x.kind = 1 ∧ q x = true → P (lat q p) x.at_) l) := by
  intro n
  induction n with
  | zero =>
    intro l h
    rw [List.length_eq_zero_iff.1 h]
    exact ⟨fun _ k b hk => by simp at hk, fun _ k b hk => by simp [lat] at hk⟩
  | succ n ih =>
    intro l h
    rcases List.eq_nil_or_concat l with h0 | ⟨p, x, h0⟩
    · rw [h0] at h; cases h
    · rw [List.concat_eq_append] at h0
      subst h0
      rw [List.length_append] at h
      have hp := ih p (by simpa using h)
      rw [allPre_snoc, lat_snoc, ← hp]
      by_cases hx : x.kind = 1 ∧ q x = true
      · rw [if_pos hx, allPre_snoc]
        exact ⟨fun g => ⟨g.1, fun _ => g.2⟩, fun g => ⟨g.1, g.2 hx⟩⟩
      · rw [if_neg hx, List.append_nil]
        exact ⟨fun g => ⟨g, fun e => (hx e).elim⟩, fun g => g.1⟩
def LnAt (i : Nat) (x : Ev) : Prop := (x.kind = 1 ∧ x.attempt = 1 ∧ x.run = (i : Int) + 1 ∧ x.due = (i : Int) ∧ x.why = 0 ∧ x.when_ = 0) ∧ (0 ≤ x.job ∧ x.job ≤ 1) ∧ 1000 ≤ x.at_ ∧ x.at_ ≤ 1000 + 15 * ((i : Int) + 1)
def LnOk (l : List Ev) : Prop := (l.length ≤ 100 ∧ ∀ (i : Nat) (x : Ev), l[i]? = some x → LnAt i x) ∧ ∀ (i j : Nat) (x y : Ev), j ≤ i → l[i]? = some x → l[j]? = some y → y.at_ ≤ x.at_
theorem LnOk.nil : LnOk [] := ⟨⟨by simp, fun i x h => by simp at h⟩, fun i j x y _ h => by simp at h⟩
theorem LnOk.take {l : List Ev} (h : LnOk l) (n : Nat) : LnOk (l.take n) := by
  have key : ∀ (i : Nat) (x : Ev), (l.take n)[i]? = some x → l[i]? = some x := fun i x hx => by
    have hi := (List.getElem?_eq_some_iff.1 hx).1
    rw [List.length_take] at hi
    rwa [List.getElem?_take_of_lt (by omega)] at hx
  exact ⟨⟨by rw [List.length_take]; have := h.1.1; omega, fun i x hx => h.1.2 i x (key i x hx)⟩, fun i j x y hij hx hy => h.2 i j x y hij (key i x hx) (key j y hy)⟩
theorem LnOk.snoc {l : List Ev} {x : Ev} (h : LnOk l) (hl : l.length < 100) (hx : LnAt l.length x) (hu : ∀ (j : Nat) (y : Ev), l[j]? = some y → y.at_ ≤ x.at_) : LnOk (l ++ [x]) := by
  have key : ∀ (i : Nat) (y : Ev), (l ++ [x])[i]? = some y → (l[i]? = some y ∧ i < l.length) ∨ (i = l.length ∧ y = x) := fun i y hy => by
    rcases Nat.lt_or_ge i l.length with g | g
    · rw [List.getElem?_append_left g] at hy; exact .inl ⟨hy, g⟩
    · have hlt := (List.getElem?_eq_some_iff.1 hy).1
      rw [List.length_append] at hlt
      have e : i = l.length := by simp at hlt; omega
      subst e
      simp at hy
      exact .inr ⟨rfl, hy.symm⟩
  refine ⟨⟨by rw [List.length_append]; simp; omega, fun i y hy => ?_⟩, fun i j y z hij hy hz => ?_⟩
  · rcases key i y hy with g | ⟨rfl, rfl⟩
    · exact h.1.2 i y g.1
    · exact hx
  · rcases key i y hy with g | ⟨rfl, rfl⟩
    · rcases key j z hz with g2 | ⟨rfl, rfl⟩
      · exact h.2 i j y z hij g.1 g2.1
      · omega
    · rcases key j z hz with g2 | ⟨rfl, rfl⟩
      · exact hu j z g2.1
      · exact Int.le_refl _
theorem ln_last {l : List Ev} (h : LnOk l) : ∀ i, i ≤ l.length → lastR (l.take i) = i := by
  intro i
  induction i with
  | zero => intro _; rfl
  | succ i ih =>
    intro hi
    have hx : l[i]? = some (l[i]'(by omega)) := List.getElem?_eq_getElem _
    rw [← List.take_append_getElem (by omega : i < l.length), last_snoc, if_pos (h.1.2 i _ hx).1.1, (h.1.2 i _ hx).1.2.2.1]
    omega
theorem ln_err {l : List Ev} (h : LnOk l) {i : Nat} {x : Ev} (hx : l[i]? = some x) : evErr 2 (l.take i) x = 0 := by
  have hi := (List.getElem?_eq_some_iff.1 hx).1
  have h100 := h.1.1
  obtain ⟨⟨h1, h2, h3, h4, h5, h6⟩, ⟨h7, h8⟩, h9, h10⟩ := h.1.2 i x hx
  have hE : evP x = 0 := by
    have ht : timeB x.at_ = true := by simp [timeB]; omega
    have hd : timeB x.due = true := by simp [timeB]; omega
    rw [ev_same x (by omega)]
    unfold evR
    rw [if_neg (by omega), if_neg (by rw [ht, hd]; simp), if_neg (by omega), if_neg (by omega), if_neg (by omega), if_neg (by omega)]
    repeat' split
    all_goals first | rfl | omega
  have hB : backw (l.take i) x = false := by
    rcases backw_take (l := l) (i := i) (x := x) with h3 | h3
    · rw [h3]
      cases hy : l[i - 1]? with
      | none => rfl
      | some y =>
        have := h.2 i (i - 1) x y (by omega) hx hy
        simp
        intro _; exact this
    · omega
  unfold evErr
  rw [if_neg (by rw [hE]; simp), if_neg (by omega), if_neg (by rw [hB]; simp)]
  unfold evRun
  rw [if_pos h1, ln_last h i (by omega), if_neg (by omega)]
theorem trcGo_zero {jobs : Int} : ∀ (r p : List Ev), (∀ i x, r[i]? = some x → evErr jobs (p ++ r.take i) x = 0) → trcGo jobs p r = (0, 0) := by
  intro r
  induction r with
  | nil => intro p _; rfl
  | cons y r ih =>
    intro p h
    have h0 := h 0 y rfl
    rw [List.take_zero, List.append_nil] at h0
    simp only [trcGo]
    rw [if_neg (by rw [h0]; simp)]
    refine ih _ fun i x hx => ?_
    have := h (i + 1) x (by simpa using hx)
    rw [List.append_assoc]
    simpa using this
theorem ln_trc {l : List Ev} (h : LnOk l) : trcE 2 l = (0, 0) := by
  unfold trcE
  rw [if_neg (by omega)]
  exact trcGo_zero l [] fun i x hx => by simpa using ln_err h hx
theorem ln_mem {l : List Ev} (h : LnOk l) (q : Ev → Bool) {i : Nat} {x : Ev} (hx : l[i]? = some x) : ∀ v ∈ lat q (l.take i), 0 ≤ v ∧ v ≤ x.at_ := by
  intro v hv
  obtain ⟨y, hy, _, e⟩ := lat_mem hv
  obtain ⟨j, hj⟩ := List.getElem?_of_mem hy
  have hjl := (List.getElem?_eq_some_iff.1 hj).1
  rw [List.length_take] at hjl
  rw [List.getElem?_take_of_lt (by omega)] at hj
  have h1 := h.2 i j x y (by omega) hx hj
  have h2 := (h.1.2 j y hj).2.2
  omega
theorem ln_sorted {l : List Ev} (h : LnOk l) (q : Ev → Bool) : (lat q l).Pairwise (· ≤ ·) := by
  have key : ∀ i, i ≤ l.length → (lat q (l.take i)).Pairwise (· ≤ ·) := by
    intro i
    induction i with
    | zero => intro _; exact List.Pairwise.nil
    | succ i ih =>
      intro hi
      have hx : l[i]? = some (l[i]'(by omega)) := List.getElem?_eq_getElem _
      rw [← List.take_append_getElem (by omega : i < l.length), lat_snoc]
      split
      · rw [List.pairwise_append]
        refine ⟨ih (by omega), List.pairwise_singleton _ _, fun a ha b hb => ?_⟩
        rw [List.mem_singleton] at hb
        subst hb
        exact (ln_mem h q hx a ha).2
      · rw [List.append_nil]; exact ih (by omega)
  have := key l.length (Nat.le_refl _)
  rwa [List.take_length] at this
def LimW (t u : Int) : Prop := (0 ≤ t ∧ t ≤ 31) ∧ (0 ≤ u ∧ u ≤ 63) ∧ (t = 0 → u = 0)
def jobW (c : UInt8) (t u : Int) : JobR := ⟨[c], 0, 0, 0, 0, 0, 0, 0, false, false, 0, 0, 0, 0, [], ⟨1000, 0, 0, 0, 0, 0, ⟨t, u⟩, ⟨0, 0, 0⟩, ⟨0, 0, 0, 0⟩⟩⟩
def cfgW (t1 u1 t2 u2 : Int) : List JobR := [jobW 97 t1 u1, jobW 98 t2 u2]
theorem limW {t u : Int} (h : LimW t u) : limP ⟨t, u⟩ = 0 := by
  unfold limP
  rw [rule_zero]
  obtain ⟨⟨h1, h2⟩, ⟨h3, h4⟩, h5⟩ := h
  intro b hb
  simp only [List.mem_cons, List.not_mem_nil, or_false] at hb
  rcases hb with rfl | rfl | rfl
  · simp [inB, spanM]; omega
  · simp [inB, spanM]; omega
  · simp
    rcases Int.lt_or_le 0 t with g | g
    · exact .inl g
    · exact .inr (h5 (by omega))
theorem ruleW {c : UInt8} {t u : Int} (h : LimW t u) : ruleJ (jobW c t u) = true := by
  have h1 : planJ (jobW c t u) = 0 := by
    show planE 0 0 0 0 0 0 0 false false 0 0 0 0 [] = 0
    decide
  have h2 : polP (jobW c t u).pol = 0 := by
    show firstE [ruleE [inB 1000 1 1000, inB 0 0 100, inB 0 0 spanM, inB 0 0 spanM], misP 0 0, limP ⟨t, u⟩, brkP ⟨0, 0, 0⟩, retP_ ⟨0, 0, 0, 0⟩] 0 = 0
    rw [limW h]
    decide
  simp [ruleJ, h1, h2]
theorem cfgW_ok {t u t1 u1 t2 u2 : Int} (h : LimW t u) (h1 : LimW t1 u1) (h2 : LimW t2 u2) : cfgE 1000 10 10 60 t u (cfgW t1 u1 t2 u2) = 0 := by
  have hg : gloE 1000 10 10 60 t u = 0 := by
    unfold gloE
    rw [if_neg]
    rw [limW h]
    omega
  have a1 : (cfgW t1 u1 t2 u2).all (fun J => nameB J.name) = true := by
    show ([jobW 97 t1 u1, jobW 98 t2 u2] : List JobR).all (fun J => nameB J.name) = true
    have e1 : nameB (jobW 97 t1 u1).name = true := by show nameB [97] = true; decide
    have e2 : nameB (jobW 98 t2 u2).name = true := by show nameB [98] = true; decide
    simp only [List.all_cons, List.all_nil, e1, e2, Bool.and_self]
  have a2 : (List.range (cfgW t1 u1 t2 u2).length).any (dupAt (namesJ (cfgW t1 u1 t2 u2))) = false := by
    show (List.range 2).any (dupAt [[97], [98]]) = false
    decide
  have a3 : (cfgW t1 u1 t2 u2).all ruleJ = true := by
    show ([jobW 97 t1 u1, jobW 98 t2 u2] : List JobR).all ruleJ = true
    simp only [List.all_cons, List.all_nil, ruleW h1, ruleW h2, Bool.and_self]
  unfold cfgE
  rw [if_neg (by rw [hg]; simp), if_neg (by show ¬ 64 < 2; omega), if_neg (by rw [a1]; simp), if_neg (by rw [a2]; simp), if_neg (by rw [a3]; simp)]
theorem auW {t u t1 u1 t2 u2 : Int} (h : LimW t u) (h1 : LimW t1 u1) (h2 : LimW t2 u2) {l : List Ev} (hl : LnOk l) : auE 1000 10 10 60 t u (cfgW t1 u1 t2 u2) l = 0 := by
  unfold auE
  rw [if_neg (by rw [cfgW_ok h h1 h2]; simp)]
  show (trcE 2 l).2 = 0
  rw [ln_trc hl]
def jobw (j : Int) (x : Ev) : Bool := if j = -1 then true else decide (x.job = j)
theorem jobw_all : jobw (-1) = allq := rfl
theorem jobw_one {j : Int} (h : 0 ≤ j) : jobw j = jq j := by
  funext x
  unfold jobw jq
  rw [if_neg (by omega)]
def Fine (t u t1 u1 t2 u2 : Int) (l : List Ev) : Prop := Spread t u (lat (jobw (-1)) l) ∧ Spread t1 u1 (lat (jobw 0) l) ∧ Spread t2 u2 (lat (jobw 1) l)
theorem spread_pre {t u : Int} (ht : LimW t u) {l : List Ev} (hl : LnOk l) (q : Ev → Bool) : Spread t u (lat q l) ↔ AllPre (fun p x => x.kind = 1 ∧ q x = true → ¬ barred t u (lat q p) x.at_) l := by
  rw [spread_barred ht.1.1 ht.2.1.1 (ln_sorted hl q)]
  exact allPre_lat q (fun L b => ¬ barred t u L b) l.length l rfl
theorem fine_iff {t u t1 u1 t2 u2 : Int} (h : LimW t u) (h1 : LimW t1 u1) (h2 : LimW t2 u2) {l : List Ev} (hl : LnOk l) :
    Fine t u t1 u1 t2 u2 l ↔ AllPre (fun p x => rateP t u (cfgW t1 u1 t2 u2) p x = false) l := by
  unfold Fine
  rw [spread_pre h hl, spread_pre h1 hl, spread_pre h2 hl, jobw_all, jobw_one (by omega : (0 : Int) ≤ 0), jobw_one (by omega : (0 : Int) ≤ 1)]
  have key : ∀ (i : Nat) (x : Ev), l[i]? = some x → (rateP t u (cfgW t1 u1 t2 u2) (l.take i) x = false ↔ (¬ barred t u (lat allq (l.take i)) x.at_) ∧ (x.job = 0 → ¬ barred t1 u1 (lat (jq 0) (l.take i)) x.at_) ∧ (x.job = 1 → ¬ barred t2 u2 (lat (jq 1) (l.take i)) x.at_)) := by
    intro i x hx
    obtain ⟨⟨hk, _⟩, ⟨h7, h8⟩, h9, _⟩ := hl.1.2 i x hx
    have e0 := early_iff (T := t) (Tau := u) (L := lat allq (l.take i)) (x := x.at_) h.1.1 h.2.1.1 (ln_mem hl allq hx) (by omega)
    have e1 := early_iff (T := t1) (Tau := u1) (L := lat (jq 0) (l.take i)) (x := x.at_) h1.1.1 h1.2.1.1 (ln_mem hl (jq 0) hx) (by omega)
    have e2 := early_iff (T := t2) (Tau := u2) (L := lat (jq 1) (l.take i)) (x := x.at_) h2.1.1 h2.2.1.1 (ln_mem hl (jq 1) hx) (by omega)
    unfold rateP
    rw [hk]
    rcases (by omega : x.job = 0 ∨ x.job = 1) with hj | hj
    · rw [hj]
      show (decide ((1 : Int) = 1) && (As.early t u (lat allq (l.take i)) x.at_ || As.early t1 u1 (lat (jq 0) (l.take i)) x.at_)) = false ↔ _
      rw [← e0, ← e1]
      simp
    · rw [hj]
      show (decide ((1 : Int) = 1) && (As.early t u (lat allq (l.take i)) x.at_ || As.early t2 u2 (lat (jq 1) (l.take i)) x.at_)) = false ↔ _
      rw [← e0, ← e2]
      simp
  constructor
  · rintro ⟨g0, g1, g2⟩ i x hx
    have hk := (hl.1.2 i x hx).1.1
    exact (key i x hx).2 ⟨g0 i x hx ⟨hk, rfl⟩, fun hj => g1 i x hx ⟨hk, by simp [jq, hj]⟩, fun hj => g2 i x hx ⟨hk, by simp [jq, hj]⟩⟩
  · intro g
    refine ⟨fun i x hx _ => ((key i x hx).1 (g i x hx)).1, fun i x hx hq => ((key i x hx).1 (g i x hx)).2.1 ?_, fun i x hx hq => ((key i x hx).1 (g i x hx)).2.2 ?_⟩
    · simpa [jq] using hq.2
    · simpa [jq] using hq.2
theorem idx_mem : ∀ (B : List Bool) (i k : Nat), k ∈ idxs B i ↔ ∃ j, k = i + j ∧ B[j]? = some true := by
  intro B
  induction B with
  | nil => intro i k; simp [idxs]
  | cons b B ih =>
    intro i k
    have hi : (∃ j, k = i + j ∧ (b :: B)[j]? = some true) ↔ (k = i ∧ b = true) ∨ ∃ j, k = i + 1 + j ∧ B[j]? = some true := by
      constructor
      · rintro ⟨j, rfl, hj⟩
        cases j with
        | zero => exact .inl ⟨rfl, by simpa using hj⟩
        | succ j => exact .inr ⟨j, by omega, by simpa using hj⟩
      · rintro (⟨rfl, rfl⟩ | ⟨j, rfl, hj⟩)
        · exact ⟨0, rfl, rfl⟩
        · exact ⟨j + 1, by omega, by simpa using hj⟩
    rw [hi, ← ih]
    cases b <;> simp [idxs]
theorem idx_up : ∀ (B : List Bool) (i : Nat), (idxs B i).Pairwise (· < ·) := by
  intro B
  induction B with
  | nil => intro i; exact List.Pairwise.nil
  | cons b B ih =>
    intro i
    cases b
    · exact ih (i + 1)
    · simp only [idxs, cond_true, List.pairwise_cons]
      refine ⟨fun k hk => ?_, ih (i + 1)⟩
      obtain ⟨j, rfl, _⟩ := (idx_mem B (i + 1) k).1 hk
      omega
theorem marks_at {f : List Ev → Ev → Bool} {l : List Ev} {n i : Nat} (hi : i < n) : (marks f l n)[i]? = some (match l[i]? with | some x => f (l.take i) x | none => false) := by
  unfold marks
  rw [List.getElem?_map, List.getElem?_range hi]
  rfl
theorem mark_mem {f : List Ev → Ev → Bool} {l : List Ev} {k : Nat} : k ∈ idxs (marks f l l.length) 0 ↔ ∃ x, l[k]? = some x ∧ f (l.take k) x = true := by
  rw [idx_mem]
  constructor
  · rintro ⟨j, e, hj⟩
    have hl := (List.getElem?_eq_some_iff.1 hj).1
    rw [marks_len] at hl
    obtain rfl : k = j := by omega
    rw [marks_at hl, List.getElem?_eq_getElem hl] at hj
    exact ⟨_, List.getElem?_eq_getElem hl, by simpa using hj⟩
  · rintro ⟨x, hx, hf⟩
    have hl := (List.getElem?_eq_some_iff.1 hx).1
    exact ⟨k, by omega, by rw [marks_at hl, hx]; simp [hf]⟩
/-- The indexes of flaws. -/
def winI (t u t1 u1 t2 u2 : Int) (l : List Ev) : List Nat := auI 1000 10 10 60 t u (cfgW t1 u1 t2 u2) l (rateP t u (cfgW t1 u1 t2 u2))
theorem winI_mem {t u t1 u1 t2 u2 : Int} (h : LimW t u) (h1 : LimW t1 u1) (h2 : LimW t2 u2) {l : List Ev} (hl : LnOk l) {k : Nat} : k ∈ winI t u t1 u1 t2 u2 l ↔ ∃ x, l[k]? = some x ∧ rateP t u (cfgW t1 u1 t2 u2) (l.take k) x = true := by
  unfold winI auI
  rw [if_pos (auW h h1 h2 hl)]
  exact mark_mem
theorem winI_up {t u t1 u1 t2 u2 : Int} {l : List Ev} : (winI t u t1 u1 t2 u2 l).Pairwise (· < ·) := by
  unfold winI auI
  split
  · exact idx_up _ _
  · exact List.Pairwise.nil
theorem winI_nil {t u t1 u1 t2 u2 : Int} (h : LimW t u) (h1 : LimW t1 u1) (h2 : LimW t2 u2) {l : List Ev} (hl : LnOk l) : winI t u t1 u1 t2 u2 l = [] ↔ Fine t u t1 u1 t2 u2 l := by
  rw [fine_iff h h1 h2 hl, List.eq_nil_iff_forall_not_mem]
  constructor
  · intro g i x hx
    cases hr : rateP t u (cfgW t1 u1 t2 u2) (l.take i) x with
    | false => rfl
    | true => exact (g i ((winI_mem h h1 h2 hl).2 ⟨x, hx, hr⟩)).elim
  · intro g k hk
    obtain ⟨x, hx, hr⟩ := (winI_mem h h1 h2 hl).1 hk
    rw [g k x hx] at hr
    cases hr
/-- Ahead of the first flaw all is fine, with it no more. -/
theorem winI_first {t u t1 u1 t2 u2 : Int} (h : LimW t u) (h1 : LimW t1 u1) (h2 : LimW t2 u2) {l : List Ev} (hl : LnOk l) {k : Nat} (hk : (winI t u t1 u1 t2 u2 l)[0]? = some k) :
    k < l.length ∧ winI t u t1 u1 t2 u2 (l.take k) = [] ∧ ¬ Fine t u t1 u1 t2 u2 (l.take (k + 1)) := by
  have hmem : k ∈ winI t u t1 u1 t2 u2 l := List.mem_of_getElem? hk
  obtain ⟨x, hx, hr⟩ := (winI_mem h h1 h2 hl).1 hmem
  have hkl := (List.getElem?_eq_some_iff.1 hx).1
  refine ⟨hkl, ?_, ?_⟩
  · rw [List.eq_nil_iff_forall_not_mem]
    intro j hj
    obtain ⟨y, hy, hry⟩ := (winI_mem h h1 h2 (hl.take k)).1 hj
    have hjl := (List.getElem?_eq_some_iff.1 hy).1
    rw [List.length_take] at hjl
    rw [List.getElem?_take_of_lt (by omega)] at hy
    rw [List.take_take, Nat.min_eq_left (by omega)] at hry
    have hj2 : j ∈ winI t u t1 u1 t2 u2 l := (winI_mem h h1 h2 hl).2 ⟨y, hy, hry⟩
    obtain ⟨b, hb⟩ := List.getElem?_of_mem hj2
    have hup := winI_up (t := t) (u := u) (t1 := t1) (u1 := u1) (t2 := t2) (u2 := u2) (l := l)
    rw [List.pairwise_iff_getElem] at hup
    obtain ⟨k1, k2⟩ := List.getElem?_eq_some_iff.1 hk
    obtain ⟨b1, b2⟩ := List.getElem?_eq_some_iff.1 hb
    rcases Nat.eq_zero_or_pos b with rfl | hb0
    · omega
    · have := hup 0 b k1 b1 hb0
      omega
  · rw [fine_iff h h1 h2 (hl.take (k + 1))]
    intro g
    have := g k x (by rw [List.getElem?_take_of_lt (by omega)]; exact hx)
    rw [List.take_take, Nat.min_eq_left (by omega), hr] at this
    cases this
/-- Flaws' indexes go up and stay below the number of events. -/
theorem winI_next {t u t1 u1 t2 u2 : Int} (h : LimW t u) (h1 : LimW t1 u1) (h2 : LimW t2 u2) {l : List Ev} (hl : LnOk l) {i k : Nat} (hk : (winI t u t1 u1 t2 u2 l)[i]? = some k) :
    k < l.length ∧ ∀ j v, j < i → (winI t u t1 u1 t2 u2 l)[j]? = some v → v < k := by
  obtain ⟨x, hx, hr⟩ := (winI_mem h h1 h2 hl).1 (List.mem_of_getElem? hk)
  refine ⟨(List.getElem?_eq_some_iff.1 hx).1, fun j v hj hv => ?_⟩
  have hup := winI_up (t := t) (u := u) (t1 := t1) (u1 := u1) (t2 := t2) (u2 := u2) (l := l)
  rw [List.pairwise_iff_getElem] at hup
  obtain ⟨k1, k2⟩ := List.getElem?_eq_some_iff.1 hk
  obtain ⟨b1, b2⟩ := List.getElem?_eq_some_iff.1 hv
  have := hup j i b1 k1 hj
  omega
end Go.Proofs.YtfpfagmmdiohbaaGreatDoor.Vc
set_option linter.unusedVariables false
set_option linter.unusedSimpArgs false
set_option linter.unusedVariables false
set_option linter.unusedSimpArgs false
namespace Go.Proofs.YtfpfagmmdiohbaaGreatDoor.Vc
open As
theorem bit0_all : (List.range 256).all (fun n => decide (0 ≤ arithV BinOp.and IntKind.u8 (n : Int) 1) && decide (arithV BinOp.and IntKind.u8 (n : Int) 1 ≤ 1)) = true := by kernel_rfl
theorem bit0_at {x : Int} (h0 : 0 ≤ x) (h : x < 256) : 0 ≤ arithV BinOp.and IntKind.u8 x 1 ∧ arithV BinOp.and IntKind.u8 x 1 ≤ 1 := by
  obtain ⟨n, rfl⟩ := Int.eq_ofNat_of_zero_le h0
  have := List.all_eq_true.1 bit0_all n ((by first | (simp; done) | (simp; omega)))
  simp only [Bool.and_eq_true, decide_eq_true_eq] at this
  exact this
theorem shr1_at {x : Int} (h0 : 0 ≤ x) : arithV BinOp.shr IntKind.u8 x 1 = x / 2 := by
  show x.fdiv (2 ^ (min (1 : Int).toNat 8)) = x / 2
  rw [Int.fdiv_eq_ediv_of_nonneg _ (by decide)]
  rfl
theorem rem_at {k : IntKind} {x y : Int} (h0 : 0 ≤ x) : arithV BinOp.rem k x y = x % y := by
  show x.tmod y = x % y
  exact Int.tmod_eq_emod_of_nonneg h0
theorem quo_at {x y : Int} (h0 : 0 ≤ x) (hx : x ≤ 1000000) (hy : 0 < y) : arithV BinOp.quo IntKind.i64 x y = x / y ∧ 0 ≤ x / y ∧ x / y ≤ x := by
  have h1 : 0 ≤ x / y := Int.ediv_nonneg h0 (by omega)
  have h2 : x / y ≤ x := Int.ediv_le_self y h0
  refine ⟨?_, h1, h2⟩
  show IntKind.i64.wrap (x.tdiv y) = x / y
  rw [Int.tdiv_eq_ediv_of_nonneg h0]
  exact wrap_id (by show (-9223372036854775808 : Int) ≤ x / y; omega) (by show x / y ≤ (9223372036854775807 : Int); omega)
theorem LnAt.ok {i : Nat} {x : Ev} (h : LnAt i x) (hi : i ≤ 100) : EvOk x := by
  obtain ⟨⟨h1, h2, h3, h4, h5, h6⟩, ⟨h7, h8⟩, h9, h10⟩ := h
  exact ⟨k64 (by omega) (by omega), k64 (by omega) (by omega), k64 (by omega) (by omega), k64 (by omega) (by omega), k64 (by omega) (by omega), k64 (by omega) (by omega), k64 (by omega) (by omega), k64 (by omega) (by omega)⟩
theorem LnOk.ok {l : List Ev} (h : LnOk l) : ∀ x ∈ l, EvOk x := fun x hx => by
  obtain ⟨i, hi⟩ := List.getElem?_of_mem hx
  have := (List.getElem?_eq_some_iff.1 hi).1
  exact (h.1.2 i x hi).ok (by have := h.1.1; omega)
def lnch_pre (p : Option Addr) (n c : Nat) (m : Mem) : Prop := n ≤ c ∧ ∃ l, BytesAt m p n l
def lnch_post (p : Option Addr) (n c : Nat) (m : Mem) (q : Option Addr) (n1 c1 : Nat) : Prop := n1 ≤ c1 ∧ ∃ l, EvsAt m q n1 l ∧ LnOk l
def lnch : Sp := { args := [.sl], grp := [none], res := [.sl], rgrp := [none], fn := 16, spec := fun a0 a1 a2 => (lnch_pre a0 a1 a2, lnch_post a0 a1 a2) }
set_option maxRecDepth 20000 in
def lnch_VC : Prop := ∀ m : Mem, ∀ (p0 : Option Addr) (n0 c0 : Nat), n0 ≤ 9223372036854775807 → c0 ≤ 9223372036854775807 → lnch_pre p0 n0 c0 m →
 (∀ x2 : Int, x2 = (bif false then max (n0 : Int) 100 else min (n0 : Int) 100) → (K.i64 x2) ∧ (0 ≤ x2 ∧ (x2 ≤ (c0 : Int) ∧ (∃ n3_ : Nat, (n3_ : Int) = x2 ∧ n3_ ≤ 9223372036854775807 ∧ (∃ F1 : Int → Option Addr → Nat → Nat → Int → List Value → Prop × Nat, ((K.i64 1000) ∧ (K.i64 0) ∧ (F1 1000 none 0 0 0 []).1) ∧
 ∀ x4 : Int, IntKind.i64.min ≤ x4 → x4 ≤ IntKind.i64.max → ∀ (p1 : Option Addr) (n1 c1 : Nat), n1 ≤ 9223372036854775807 → c1 ≤ 9223372036854775807 → ∀ x7 : Int, IntKind.i64.min ≤ x7 → x7 ≤ IntKind.i64.max → ∀ r0 : List Value, (F1 x4 p1 n1 c1 x7 r0).1 →
 ((x7 < (n3_ : Int) →
 (0 ≤ x7 ∧ (p0 ≠ none ∧ (HasI m p0 (0 + x7) 1 ∧ (∃ x8 : Int, cellI m p0 (0 + x7) = some (Value.int IntKind.u8 x8) ∧ (K.u8 x8) ∧ (arithP BinOp.shr 1 ∧ ∀ x9 : Int, x9 = arithV BinOp.shr IntKind.u8 x8 1 → (K.u8 x9) ∧ (arithP BinOp.rem 16 ∧ ∀ x10 : Int, x10 = arithV BinOp.rem IntKind.u8 x9 16 → (K.u8 x10) ∧ ((x4 + x10) ≤ 9223372036854775807 ∧ (arithP BinOp.and 1 ∧ ∀ x11 : Int, x11 = arithV BinOp.and IntKind.u8 x8 1 → (K.u8 x11) ∧ ((x7 + 1) ≤ 9223372036854775807 ∧ ((2 * ((n1 : Int) + 1) * 64 ≤ 281474976710656) ∧ ∀ (p2 : Addr) (c2 : Nat) (r1 : List Value), r1 = r0 ++ [(Value.int IntKind.i64 1), (Value.int IntKind.i64 (x4 + x10)), (Value.int IntKind.i64 x11), (Value.int IntKind.i64 x7), (Value.int IntKind.i64 1), (Value.int IntKind.i64 (x7 + 1)), (Value.int IntKind.i64 0), (Value.int IntKind.i64 0)] → (n1 : Int) + 1 ≤ (c2 : Int) → c2 ≤ 9223372036854775807 → ((x7 + 1) ≤ 9223372036854775807 ∧ ((K.i64 (x4 + x10)) ∧ ((Int.toNat ((n1 : Int) + 1)) ≤ 9223372036854775807 ∧ c2 ≤ 9223372036854775807) ∧ (IntKind.i64.min ≤ (x7 + 1) ∧ (x7 + 1) ≤ IntKind.i64.max) ∧ ((F1 (x4 + x10) ((some p2).map fun p => p.add 0) (Int.toNat ((n1 : Int) + 1)) c2 (x7 + 1) r1).1 ∧ (F1 (x4 + x10) ((some p2).map fun p => p.add 0) (Int.toNat ((n1 : Int) + 1)) c2 (x7 + 1) r1).2 < (F1 x4 p1 n1 c1 x7 r0).2)))))))))))))) ∧
 ((n3_ : Int) ≤ x7 →
 (∀ m2 : Mem, MemSub m m2 → RowAt m2 p1 r0 → ((n1 ≤ 9223372036854775807 ∧ c1 ≤ 9223372036854775807) ∧ lnch_post p0 n0 c0 m2 (p1.map fun p => p.add 0) n1 c1)))))))))
set_option maxRecDepth 20000 in
set_option maxHeartbeats 4000000 in
theorem lnch_vc : lnch_VC := by
  intro m p n c hn hc ⟨hnc, L, hL⟩
  intro x2 hx2
  have hx2' : x2 = min (n : Int) 100 := hx2
  refine ⟨k64 (by omega) (by omega), by omega, by omega, x2.toNat, by omega, by omega, ?_⟩
  have hk : ((x2.toNat : Nat) : Int) = x2 := by omega
  generalize x2.toNat = k at hk
  refine ⟨fun x4 p1 n1 c1 x7 r0 => (∃ l : List Ev, x7 = (l.length : Int) ∧ l.length ≤ k ∧ LnOk l ∧ r0 = evRow l ∧ n1 = l.length ∧ n1 ≤ c1 ∧ (1000 ≤ x4 ∧ x4 ≤ 1000 + 15 * (l.length : Int)) ∧ (∀ (j : Nat) (y : Ev), l[j]? = some y → y.at_ ≤ x4) ∧ (p1 = none → r0 = []), ((k : Int) - x7).toNat),
    ⟨by constructor <;> decide, by constructor <;> decide, [], rfl, by simp, LnOk.nil, rfl, rfl, by omega, ⟨by omega, by simp⟩, fun j y h => by simp at h, fun _ => rfl⟩, ?_⟩
  rintro x4 k1 k2 p1 n1 c1 hn1 hc1 x7 k3 k4 r0 ⟨l, rfl, hlk, hl, hr0, rfl, hnc1, ⟨ha, hb⟩, hup, hp1⟩
  refine ⟨fun hlt => ?_, fun hge => ?_⟩
  · obtain ⟨b, hLb, hp, hby, hhas⟩ := hL.at_ (i := (l.length : Int)) (by omega) (by omega)
    obtain ⟨hb0, hb1⟩ : 0 ≤ b ∧ b ≤ 255 := hby.2
    obtain ⟨q1, q2⟩ := bit0_at hb0 (by omega)
    have s1 := shr1_at hb0
    have hc8 : cellI m p (0 + (l.length : Int)) = some (.int .u8 b) := cellI_to hby.1 (by omega)
    have hh8 : HasI m p (0 + (l.length : Int)) 1 := by
      have e : (0 + (l.length : Int) * 1) = 0 + (l.length : Int) := by omega
      rw [← e]; exact hhas
    refine ⟨by omega, hp, hh8, b, hc8, hby.2, (by show (0 : Int) ≤ 1; decide), ?_⟩
    intro x9 hx9
    rw [s1] at hx9
    refine ⟨⟨by show (0 : Int) ≤ x9; omega, by show x9 ≤ 255; omega⟩, (by show (16 : Int) ≠ 0; decide), ?_⟩
    intro x10 hx10
    rw [rem_at (by omega)] at hx10
    have h10 : 0 ≤ x10 ∧ x10 ≤ 15 := by omega
    refine ⟨⟨by show (0 : Int) ≤ x10; omega, by show x10 ≤ 255; omega⟩, by omega, trivial, ?_⟩
    intro x11 hx11
    rw [← hx11] at q1 q2
    refine ⟨⟨by show (0 : Int) ≤ x11; omega, by show x11 ≤ 255; omega⟩, by omega, by omega, fun p2 c2 r1 hr1 hle hc2 => ⟨by omega, k64 (by omega) (by omega), ⟨by omega, hc2⟩, k64 (by omega) (by omega), ⟨l ++ [⟨1, x4 + x10, x11, (l.length : Int), 1, (l.length : Int) + 1, 0, 0⟩], by simp, (by first | (simp; done) | (simp; omega)), ?_, ?_, (by first | (simp; done) | (simp; omega)), by omega, ⟨by omega, (by first | (simp; done) | (simp; omega))⟩, ?_, fun h => by cases h⟩, by first | omega | (simp only; omega)⟩⟩
    · refine hl.snoc (by omega) ⟨⟨rfl, rfl, rfl, rfl, rfl, rfl⟩, ⟨q1, q2⟩, by show 1000 ≤ x4 + x10; omega, by show x4 + x10 ≤ _; omega⟩ (fun j y hy => by have := hup j y hy; show y.at_ ≤ x4 + x10; omega)
    · rw [hr1, evRow_app, hr0]; rfl
    · intro j y hy
      rcases Nat.lt_or_ge j l.length with g | g
      · rw [List.getElem?_append_left g] at hy
        have := hup j y hy; omega
      · have hlt := (List.getElem?_eq_some_iff.1 hy).1
        rw [List.length_append] at hlt
        have e : j = l.length := by simp at hlt; omega
        subst e
        simp at hy
        subst hy
        exact Int.le_refl _
  · intro m2 hm2 hrow
    rw [map_add0]
    exact ⟨⟨hn1, hc1⟩, hnc1, l, evRow_at ⟨by rw [← hr0]; exact hrow, fun h => by rw [← hr0]; exact hp1 h⟩ hl.ok, hl⟩
theorem lnch_pg : ∀ m, forallF lnch.args lnch.spec fun r => r.1 m → GlobsAt m [] := fun m a b c h => trivial
set_option maxRecDepth 20000 in
theorem lnch_ok : SpOk Tryz.prog lnch :=
  con_okZ [] [] [] rfl (sps_of [] trivial rfl) (tab_ok _ [⟨(37, 4), [], [], [(3, 55)], []⟩]) 1000 lnch _ rfl rfl lnch_pg (Eq.mp (show lnch_VC = _ by kernel_rfl) lnch_vc)
def sprd_pre (p : Option Addr) (n c : Nat) (j t u : Int) (m : Mem) : Prop := LimW t u ∧ ∃ l, EvsAt m p n l ∧ LnOk l
def sprd_post (p : Option Addr) (n c : Nat) (j t u : Int) (m : Mem) (b : Bool) : Prop := ∀ l, EvsAt m p n l → (b = true ↔ Spread t u (lat (jobw j) l))
def sprd : Sp := { args := [.sl, .i .i64, .i .i64, .i .i64], grp := [none, none, some 2], res := [.b], rgrp := [none], fn := 18, spec := fun a0 a1 a2 a3 a4 a5 => (sprd_pre a0 a1 a2 a3 a4 a5, sprd_post a0 a1 a2 a3 a4 a5) }
set_option maxRecDepth 20000 in
def sprd_VC : Prop := ∀ m : Mem, ∀ (p0 : Option Addr) (n0 c0 : Nat), n0 ≤ 9223372036854775807 → c0 ≤ 9223372036854775807 → ∀ x2 : Int, IntKind.i64.min ≤ x2 → x2 ≤ IntKind.i64.max → ∀ x3 : Int, IntKind.i64.min ≤ x3 → x3 ≤ IntKind.i64.max → ∀ x4 : Int, IntKind.i64.min ≤ x4 → x4 ≤ IntKind.i64.max → sprd_pre p0 n0 c0 x2 x3 x4 m →
 ((x3 = 0 →
 (sprd_post p0 n0 c0 x2 x3 x4 m true)) ∧
 (x3 ≠ 0 →
 (∃ F1 : Option Addr → Nat → Nat → Int → List Value → Prop × Nat, ((K.i64 0) ∧ (F1 none 0 0 0 []).1) ∧
 ∀ (p1 : Option Addr) (n1 c1 : Nat), n1 ≤ 9223372036854775807 → c1 ≤ 9223372036854775807 → ∀ x7 : Int, IntKind.i64.min ≤ x7 → x7 ≤ IntKind.i64.max → ∀ r0 : List Value, (F1 p1 n1 c1 x7 r0).1 →
 ((x7 < (n0 : Int) →
 (0 ≤ x7 ∧ (p0 ≠ none ∧ (HasI m p0 (0 + (x7 * 8)) 8 ∧ ((x2 = (-1 : Int) →
 (∃ x8 : Int, cellI m p0 ((0 + (x7 * 8)) + 1) = some (Value.int IntKind.i64 x8) ∧ (K.i64 x8) ∧ ((2 * ((n1 : Int) + 1) * 8 ≤ 281474976710656) ∧ ∀ (p2 : Addr) (c2 : Nat) (r1 : List Value), r1 = r0 ++ [(Value.int IntKind.i64 x8)] → (n1 : Int) + 1 ≤ (c2 : Int) → c2 ≤ 9223372036854775807 → ((x7 + 1) ≤ 9223372036854775807 ∧ (((Int.toNat ((n1 : Int) + 1)) ≤ 9223372036854775807 ∧ c2 ≤ 9223372036854775807) ∧ (IntKind.i64.min ≤ (x7 + 1) ∧ (x7 + 1) ≤ IntKind.i64.max) ∧ ((F1 ((some p2).map fun p => p.add 0) (Int.toNat ((n1 : Int) + 1)) c2 (x7 + 1) r1).1 ∧ (F1 ((some p2).map fun p => p.add 0) (Int.toNat ((n1 : Int) + 1)) c2 (x7 + 1) r1).2 < (F1 p1 n1 c1 x7 r0).2)))))) ∧
 (x2 ≠ (-1 : Int) →
 (∃ x8 : Int, cellI m p0 ((0 + (x7 * 8)) + 2) = some (Value.int IntKind.i64 x8) ∧ (K.i64 x8) ∧ ((x8 = x2 →
 (∃ x9 : Int, cellI m p0 ((0 + (x7 * 8)) + 1) = some (Value.int IntKind.i64 x9) ∧ (K.i64 x9) ∧ ((2 * ((n1 : Int) + 1) * 8 ≤ 281474976710656) ∧ ∀ (p2 : Addr) (c2 : Nat) (r1 : List Value), r1 = r0 ++ [(Value.int IntKind.i64 x9)] → (n1 : Int) + 1 ≤ (c2 : Int) → c2 ≤ 9223372036854775807 → ((x7 + 1) ≤ 9223372036854775807 ∧ (((Int.toNat ((n1 : Int) + 1)) ≤ 9223372036854775807 ∧ c2 ≤ 9223372036854775807) ∧ (IntKind.i64.min ≤ (x7 + 1) ∧ (x7 + 1) ≤ IntKind.i64.max) ∧ ((F1 ((some p2).map fun p => p.add 0) (Int.toNat ((n1 : Int) + 1)) c2 (x7 + 1) r1).1 ∧ (F1 ((some p2).map fun p => p.add 0) (Int.toNat ((n1 : Int) + 1)) c2 (x7 + 1) r1).2 < (F1 p1 n1 c1 x7 r0).2)))))) ∧
 (x8 ≠ x2 →
 ((x7 + 1) ≤ 9223372036854775807 ∧ ((n1 ≤ 9223372036854775807 ∧ c1 ≤ 9223372036854775807) ∧ (IntKind.i64.min ≤ (x7 + 1) ∧ (x7 + 1) ≤ IntKind.i64.max) ∧ ((F1 (p1.map fun p => p.add 0) n1 c1 (x7 + 1) r0).1 ∧ (F1 (p1.map fun p => p.add 0) n1 c1 (x7 + 1) r0).2 < (F1 p1 n1 c1 x7 r0).2)))))))))))) ∧
 ((n0 : Int) ≤ x7 →
 (∃ F2 : Bool → Int → Prop × Nat, ((K.i64 0) ∧ (F2 false 0).1) ∧
 ∀ b0 : Bool, ∀ x8 : Int, IntKind.i64.min ≤ x8 → x8 ≤ IntKind.i64.max → (F2 b0 x8).1 →
 ((x8 < (n1 : Int) →
 (∃ F3 : Bool → Int → Prop × Nat, ((K.i64 x8) ∧ (F3 b0 x8).1) ∧
 ∀ b1 : Bool, ∀ x9 : Int, IntKind.i64.min ≤ x9 → x9 ≤ IntKind.i64.max → (F3 b1 x9).1 →
 ((x9 < (n1 : Int) →
 ((-9223372036854775808 : Int) ≤ (x9 - x8) ∧ ((x9 - x8) ≤ 9223372036854775807 ∧ ((-9223372036854775808 : Int) ≤ ((x9 - x8) + 1) ∧ (((x9 - x8) + 1) ≤ 9223372036854775807 ∧ (0 ≤ x9 ∧ (p1 ≠ none ∧ ((0 ≤ (0 + x9) ∧ (0 + x9) + 1 ≤ (r0.length : Int)) ∧ (∃ x10 : Int, rowI r0 (0 + x9) = some (Value.int IntKind.i64 x10) ∧ (K.i64 x10) ∧ (0 ≤ x8 ∧ (p1 ≠ none ∧ ((0 ≤ (0 + x8) ∧ (0 + x8) + 1 ≤ (r0.length : Int)) ∧ (∃ x11 : Int, rowI r0 (0 + x8) = some (Value.int IntKind.i64 x11) ∧ (K.i64 x11) ∧ ((-9223372036854775808 : Int) ≤ (x10 - x11) ∧ ((x10 - x11) ≤ 9223372036854775807 ∧ ((-9223372036854775808 : Int) ≤ ((x10 - x11) + x4) ∧ (((x10 - x11) + x4) ≤ 9223372036854775807 ∧ (arithP BinOp.quo x3 ∧ ∀ x12 : Int, x12 = arithV BinOp.quo IntKind.i64 ((x10 - x11) + x4) x3 → (K.i64 x12) ∧ ((x12 + 1) ≤ 9223372036854775807 ∧ (((x12 + 1) < ((x9 - x8) + 1) →
 (sprd_post p0 n0 c0 x2 x3 x4 m false)) ∧
 (((x9 - x8) + 1) ≤ (x12 + 1) →
 ((x9 + 1) ≤ 9223372036854775807 ∧ ((IntKind.i64.min ≤ (x9 + 1) ∧ (x9 + 1) ≤ IntKind.i64.max) ∧ ((F3 b1 (x9 + 1)).1 ∧ (F3 b1 (x9 + 1)).2 < (F3 b1 x9).2)))))))))))))))))))))))) ∧
 ((n1 : Int) ≤ x9 →
 ((x8 + 1) ≤ 9223372036854775807 ∧ ((IntKind.i64.min ≤ (x8 + 1) ∧ (x8 + 1) ≤ IntKind.i64.max) ∧ ((F2 b1 (x8 + 1)).1 ∧ (F2 b1 (x8 + 1)).2 < (F2 b0 x8).2))))))) ∧
 ((n1 : Int) ≤ x8 →
 (sprd_post p0 n0 c0 x2 x3 x4 m true)))))))))
set_option maxRecDepth 20000 in
set_option maxHeartbeats 4000000 in
theorem sprd_vc : sprd_VC := by
  intro m p n c hn hc x2 k1 k2 x3 k3 k4 x4 k5 k6 ⟨hlim, l, hl, hln⟩
  have hlen := hl.1
  have h100 := hln.1.1
  have ps : ∀ b : Bool, (b = true ↔ Spread x3 x4 (lat (jobw x2) l)) → sprd_post p n c x2 x3 x4 m b := fun b h l2 hl2 => by
    rw [← hl.uniq (fun _ _ h => h) hl2]; exact h
  refine ⟨fun h => ps true ⟨fun _ => .inl h, fun _ => rfl⟩, fun hne => ?_⟩
  have k0 : K.i64 0 := by constructor <;> decide
  have hkind : ∀ (i : Nat) (x : Ev), l[i]? = some x → x.kind = 1 := fun i x h => (hln.1.2 i x h).1.1
  have hlat : ∀ i, (lat (jobw x2) (l.take i)).length ≤ 100 := fun i => by
    have := lat_len (jobw x2) (l.take i)
    rw [List.length_take] at this; omega
  refine ⟨fun p1 n1 c1 x7 r0 => (∃ i : Nat, x7 = i ∧ i ≤ n ∧ r0 = (lat (jobw x2) (l.take i)).map (Value.int .i64) ∧ n1 = (lat (jobw x2) (l.take i)).length ∧ (p1 = none → n1 = 0), ((n : Int) - x7).toNat),
    ⟨k0, 0, rfl, by omega, rfl, rfl, fun _ => rfl⟩, ?_⟩
  rintro p1 n1 c1 hn1 hc1 x7 k7 k8 r0 ⟨i, rfl, hi, hr0, hn1e, hp1⟩
  refine ⟨fun hlt => ?_, fun hge => ?_⟩
  · obtain ⟨x, hx, hp, hev, hhas⟩ := hl.at_ (i := (i : Int)) (by omega) hlt
    rw [Int.toNat_natCast] at hx
    have hsnoc : l.take (i + 1) = l.take i ++ [x] := by
      obtain ⟨hi2, e⟩ := List.getElem?_eq_some_iff.1 hx
      rw [← e, List.take_append_getElem]
    have hk := hkind i x hx
    have hcap := hlat i
    have hit : ∀ (p2 : Addr) (c2 : Nat) (r1 : List Value), jobw x2 x = true → r1 = r0 ++ [.int .i64 x.at_] → c2 ≤ 9223372036854775807 → ((i : Int) + 1) ≤ 9223372036854775807 ∧ (((Int.toNat ((n1 : Int) + 1)) ≤ 9223372036854775807 ∧ c2 ≤ 9223372036854775807) ∧ (IntKind.i64.min ≤ ((i : Int) + 1) ∧ ((i : Int) + 1) ≤ IntKind.i64.max) ∧ ((∃ i' : Nat, (i : Int) + 1 = i' ∧ i' ≤ n ∧ r1 = (lat (jobw x2) (l.take i')).map (Value.int .i64) ∧ (Int.toNat ((n1 : Int) + 1)) = (lat (jobw x2) (l.take i')).length ∧ (((some p2).map fun p => p.add 0) = none → (Int.toNat ((n1 : Int) + 1)) = 0)) ∧ ((n : Int) - ((i : Int) + 1)).toNat < ((n : Int) - (i : Int)).toNat)) := by
      intro p2 c2 r1 hq hr1 hc2
      have e : lat (jobw x2) (l.take (i + 1)) = lat (jobw x2) (l.take i) ++ [x.at_] := by rw [hsnoc, lat_snoc, if_pos ⟨hk, hq⟩]
      refine ⟨by omega, ⟨by omega, hc2⟩, k64 (by omega) (by omega), ⟨i + 1, by omega, by omega, ?_, ?_, fun h => by cases h⟩, by omega⟩
      · rw [hr1, hr0, e, List.map_append]; rfl
      · rw [e, List.length_append, ← hn1e]; simp
    refine ⟨by omega, hp, hhas, fun hall => ⟨x.at_, hev.2.1.1, hev.2.1.2, by omega, fun p2 c2 r1 hr1 _ hc2 => hit p2 c2 r1 (by unfold jobw; rw [if_pos hall]) hr1 hc2⟩, fun hone => ⟨x.job, hev.2.2.1.1, hev.2.2.1.2, fun hj => ⟨x.at_, hev.2.1.1, hev.2.1.2, by omega, fun p2 c2 r1 hr1 _ hc2 => hit p2 c2 r1 (by unfold jobw; rw [if_neg hone]; exact decide_eq_true hj) hr1 hc2⟩, fun hj => ?_⟩⟩
    have e : lat (jobw x2) (l.take (i + 1)) = lat (jobw x2) (l.take i) := by
      rw [hsnoc, lat_snoc, if_neg (fun g => by
        have := g.2
        unfold jobw at this
        rw [if_neg hone] at this
        exact hj (of_decide_eq_true this)), List.append_nil]
    rw [map_add0]
    exact ⟨by omega, ⟨hn1, hc1⟩, k64 (by omega) (by omega), ⟨i + 1, by omega, by omega, by rw [e]; exact hr0, by rw [e]; exact hn1e, hp1⟩, by first | omega | (simp only; omega)⟩
  obtain rfl : i = l.length := by omega
  rw [List.take_length] at hr0 hn1e
  have hAl := hlat l.length
  rw [List.take_length] at hAl
  generalize hA : lat (jobw x2) l = A at *
  have hAb : ∀ (k : Nat) (a : Int), A[k]? = some a → 1000 ≤ a ∧ a ≤ 2500 := fun k a h => by
    obtain ⟨x, hx, _, e⟩ := lat_mem (q := jobw x2) (p := l) (by rw [hA]; exact List.mem_of_getElem? h)
    obtain ⟨j, hj⟩ := List.getElem?_of_mem hx
    have h1 := (List.getElem?_eq_some_iff.1 hj).1
    have h2 := (hln.1.2 j x hj).2.2
    omega
  have hAs : ∀ (i k : Nat) (a b : Int), i ≤ k → A[i]? = some a → A[k]? = some b → a ≤ b := fun i k a b hik ha hb => by
    have hs := ln_sorted hln (jobw x2)
    rw [hA, List.pairwise_iff_getElem] at hs
    obtain ⟨h1, e1⟩ := List.getElem?_eq_some_iff.1 ha
    obtain ⟨h2, e2⟩ := List.getElem?_eq_some_iff.1 hb
    rcases Nat.lt_or_ge i k with g | g
    · rw [← e1, ← e2]; exact hs i k h1 h2 g
    · obtain rfl : i = k := by omega
      rw [ha] at hb; cases hb; exact Int.le_refl _
  have hrl : r0.length = A.length := by rw [hr0, List.length_map]
  have hrow : ∀ (k : Nat), k < A.length → ∃ a, A[k]? = some a ∧ K.i64 a ∧ rowI r0 (0 + (k : Int)) = some (.int .i64 a) := fun k hk => by
    have h1 : A[k]? = some A[k] := List.getElem?_eq_getElem hk
    have h2 := hAb k _ h1
    refine ⟨A[k], h1, k64 (by omega) (by omega), rowI_to (rowI_at (r := r0) (o := k) (v := .int .i64 A[k]) (by rw [hr0, List.getElem?_map, h1]; rfl) rfl) (by omega)⟩
  obtain ⟨⟨hT0, hT1⟩, ⟨hU0, hU1⟩, _⟩ := hlim
  refine ⟨fun b x8 => (∃ i : Nat, x8 = i ∧ i ≤ n1 ∧ ∀ (i' k : Nat) (a b : Int), i' < i → i' ≤ k → A[i']? = some a → A[k]? = some b → ¬ (b - a + x4) / x3 + 1 < ((k - i' : Nat) : Int) + 1, ((n1 : Int) - x8).toNat), ⟨k0, 0, rfl, by omega, fun i' k a b h => by omega⟩, ?_⟩
  rintro b0 x8 k9 k10 ⟨i, rfl, hi1, hinv⟩
  refine ⟨fun hlt => ?_, fun hge2 => ps true ⟨fun _ => .inr fun i' k a b hik ha hb => hinv i' k a b (by have := (List.getElem?_eq_some_iff.1 ha).1; omega) hik ha hb, fun _ => rfl⟩⟩
  obtain ⟨a, ha, hak, har⟩ := hrow i (by omega)
  refine ⟨fun b x9 => (∃ k : Nat, x9 = k ∧ i ≤ k ∧ k ≤ n1 ∧ ∀ (k' : Nat) (b : Int), i ≤ k' → k' < k → A[k']? = some b → ¬ (b - a + x4) / x3 + 1 < ((k' - i : Nat) : Int) + 1, ((n1 : Int) - x9).toNat), ⟨⟨k9, k10⟩, i, rfl, by omega, by omega, fun k' b h1 h2 => by omega⟩, ?_⟩
  rintro b1 x9 k11 k12 ⟨k, rfl, hik, hkn, hinv2⟩
  refine ⟨fun hlt2 => ?_, fun hge3 => ⟨by omega, k64 (by omega) (by omega), ⟨i + 1, by omega, by omega, fun i' k' a' b' h1 h2 ha' hb' => ?_⟩, by first | omega | (simp only; omega)⟩⟩
  · obtain ⟨b, hb, hbk, hbr⟩ := hrow k (by omega)
    have h1 := hAb i a ha
    have h2 := hAb k b hb
    have h3 := hAs i k a b hik ha hb
    have hp1' : p1 ≠ none := fun h => by have := hp1 h; omega
    obtain ⟨e1, e2, e3⟩ := quo_at (x := b - a + x4) (y := x3) (by omega) (by omega) (by omega)
    have hki : ((k : Int) - (i : Int)) = ((k - i : Nat) : Int) := by omega
    refine ⟨by omega, by omega, by omega, by omega, by omega, hp1', ⟨by omega, by rw [hrl]; omega⟩, b, hbr, hbk, by omega, hp1', ⟨by omega, by rw [hrl]; omega⟩, a, har, hak, by omega, by omega, by omega, by omega, by show x3 ≠ 0; exact hne, ?_⟩
    intro x12 hx12
    rw [e1] at hx12
    refine ⟨k64 (by omega) (by omega), by omega, fun hbad => ps false ⟨(fun h => by cases h), fun hs => ?_⟩, fun hok => ⟨by omega, k64 (by omega) (by omega), ⟨k + 1, by omega, by omega, by omega, fun k' b' g1 g2 hb' => ?_⟩, by first | omega | (simp only; omega)⟩⟩
    · rcases hs with hs | hs
      · exact (hne hs).elim
      · rw [hki, hx12] at hbad
        exact (hs i k a b hik ha hb hbad).elim
    · by_cases e : k' = k
      · subst e
        rw [hb] at hb'; cases hb'
        rw [← hx12, ← hki]; omega
      · exact hinv2 k' b' g1 (by omega) hb'
  · by_cases e : i' = i
    · subst e
      rw [ha] at ha'; cases ha'
      exact hinv2 k' b' h2 (by have := (List.getElem?_eq_some_iff.1 hb').1; omega) hb'
    · exact hinv i' k' a' b' (by omega) h2 ha' hb'
set_option maxRecDepth 20000 in
theorem sprd_ok : SpOk Tryz.prog sprd :=
  con_ok (sps_of [] trivial rfl) (tab_ok _ [⟨(69, 5), [], [], [(7, 2)], []⟩, ⟨(69, 11), [], [], [], []⟩, ⟨(69, 14), [], [], [], []⟩]) 1000 sprd _ rfl rfl (Eq.mp (show sprd_VC = _ by kernel_rfl) sprd_vc)
end Go.Proofs.YtfpfagmmdiohbaaGreatDoor.Vc
