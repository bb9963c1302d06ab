/-
  Contracts, by their trees; Contracts, by their trees; Contracts, by their trees.
-/
import Derived.Test.YtmpbddmbpeoehaaGreatDoorWH
set_option linter.unusedVariables false
set_option linter.unusedSimpArgs false
set_option maxHeartbeats 4000000
namespace Go.Proofs.YtmpbddmbpeoehaaGreatDoor.Vc
open As
def endOf (x y : Ev) : Bool := isEnd y && y.run == x.run
def undP (q : List Ev) : Nat → List Ev
 | 0 => []
 | i + 1 => undP q i ++ (match q[i]? with | some x => if x.kind = 1 ∧ (q.drop (i + 1)).any (endOf x) = false then [x] else [] | none => [])
theorem undP_snoc (q : List Ev) (x : Ev) : ∀ i, i ≤ q.length → undP (q ++ [x]) i = if isEnd x = true then (undP q i).filter (fun y => decide (y.run ≠ x.run)) else undP q i := by
 intro i
 induction i with
 | zero => intro _; simp [undP]
 | succ i ih =>
  intro hi
  simp only [undP]
  rw [ih (by omega), List.getElem?_append_left (by omega)]
  have hq : q[i]? = some q[i] := List.getElem?_eq_getElem (by omega)
  rw [hq, List.drop_append_of_le_length (by omega)]
  simp only [List.any_append, List.any_cons, List.any_nil, Bool.or_false]
  by_cases he : isEnd x = true
  ·simp only [he, if_true, List.filter_append]
   congr 1
   by_cases hr : (q[i]).run = x.run
   ·have h1 : endOf q[i] x = true := by simp [endOf, he, hr]
    rw [h1, Bool.or_true]
    simp only [Bool.true_eq_false, and_false, if_false]
    split <;> simp [hr]
   ·have h1 : endOf q[i] x = false := by simp [endOf, he]; omega
    rw [h1, Bool.or_false]
    split <;> simp [hr]
  ·have h1 : endOf q[i] x = false := by simp [endOf, he]
   rw [h1, Bool.or_false]
   simp only [if_neg he]
theorem und_eq (l : List Ev) : undP l l.length = und l := by
 have key : ∀ (n : Nat) (l : List Ev), l.length = n → undP l l.length = und l := by
  intro n
  induction n with
  | zero => intro l h; rw [List.length_eq_zero_iff.1 h]; rfl
  | succ n ih =>
   intro l h
   rcases List.eq_nil_or_concat l with h0 | ⟨q, x, h0⟩
   ·rw [h0] at h; cases h
   ·rw [List.concat_eq_append] at h0
    subst h0
    rw [List.length_append] at h
    have hq := ih q (by simpa using h)
    rw [List.length_append, und_snoc, ← hq]
    simp only [List.length_cons, List.length_nil, undP]
    rw [undP_snoc q x q.length (Nat.le_refl _), List.getElem?_append_right (Nat.le_refl _)]
    simp only [Nat.sub_self, List.getElem?_cons_zero]
    have hd : (q ++ [x]).drop (q.length + 1) = [] := by apply List.drop_eq_nil_of_le; simp
    rw [hd]
    unfold undS
    by_cases hk : x.kind = 1
    ·have he : isEnd x = false := by simp [isEnd, hk]
     simp [hk, he]
    ·simp only [hk, false_and, if_false, List.append_nil]
 exact key _ l rfl
def EvOk (x : Ev) : Prop := K.i64 x.kind ∧ K.i64 x.at_ ∧ K.i64 x.job ∧ K.i64 x.due ∧ K.i64 x.attempt ∧ K.i64 x.run ∧ K.i64 x.why ∧ K.i64 x.when_
theorem EvAt.ok {m : Mem} {p : Option Addr} {z : Int} {x : Ev} (h : EvAt m p z x) : EvOk x := ⟨h.1.2, h.2.1.2, h.2.2.1.2, h.2.2.2.1.2, h.2.2.2.2.1.2, h.2.2.2.2.2.1.2, h.2.2.2.2.2.2.1.2, h.2.2.2.2.2.2.2.2⟩
theorem EvsAt.ok {m : Mem} {p : Option Addr} {n : Nat} {l : List Ev} (h : EvsAt m p n l) : ∀ x ∈ l, EvOk x := fun x hx => by
 obtain ⟨i, hi⟩ := List.getElem?_of_mem hx
 exact (h.2 i x hi).ok
def evRow : List Ev → List Value
 | [] => []
 | x :: l => evCells x ++ evRow l
theorem evRow_app : ∀ (l : List Ev) (x : Ev), evRow (l ++ [x]) = evRow l ++ evCells x := by
 intro l
 induction l with
 | nil => intro x; simp [evRow]
 | cons y l ih => intro x; simp [evRow, ih]
theorem evRow_get : ∀ (l : List Ev) (i j : Nat) (x : Ev), l[i]? = some x → j < 8 → (evRow l)[i * 8 + j]? = (evCells x)[j]? := by
 intro l
 induction l with
 | nil => intro i j x h; simp at h
 | cons y l ih =>
  intro i j x h hj
  have hl : (evCells y).length = 8 := rfl
  cases i with
  | zero =>
   simp at h; subst h
   simp only [evRow]
   rw [List.getElem?_append_left (by rw [hl]; omega), Nat.zero_mul, Nat.zero_add]
  | succ i =>
   simp only [evRow]
   rw [List.getElem?_append_right (by rw [hl]; omega), hl, show (i + 1) * 8 + j - 8 = i * 8 + j by omega]
   exact ih i j x (by simpa using h) hj
theorem evRow_at {m : Mem} {q : Option Addr} {l : List Ev} (h : RowM m q (evRow l)) (hok : ∀ x ∈ l, EvOk x) : EvsAt m q l.length l := by
 refine ⟨rfl, fun i x hx => ?_⟩
 obtain ⟨o1, o2, o3, o4, o5, o6, o7, o8⟩ := hok x (List.mem_of_getElem? hx)
 have g := fun j hj => evRow_get l i j x hx hj
 have z : ∀ j : Nat, ((i * 8 + j : Nat) : Int) = (i : Int) * 8 + j := fun j => by omega
 have a1 := h.int (j := i * 8 + 0) (x := x.kind) (by rw [g 0 (by omega)]; rfl) o1
 have a2 := h.int (j := i * 8 + 1) (x := x.at_) (by rw [g 1 (by omega)]; rfl) o2
 have a3 := h.int (j := i * 8 + 2) (x := x.job) (by rw [g 2 (by omega)]; rfl) o3
 have a4 := h.int (j := i * 8 + 3) (x := x.due) (by rw [g 3 (by omega)]; rfl) o4
 have a5 := h.int (j := i * 8 + 4) (x := x.attempt) (by rw [g 4 (by omega)]; rfl) o5
 have a6 := h.int (j := i * 8 + 5) (x := x.run) (by rw [g 5 (by omega)]; rfl) o6
 have a7 := h.int (j := i * 8 + 6) (x := x.why) (by rw [g 6 (by omega)]; rfl) o7
 have a8 := h.int (j := i * 8 + 7) (x := x.when_) (by rw [g 7 (by omega)]; rfl) o8
 rw [z] at a1 a2 a3 a4 a5 a6 a7 a8
 exact ⟨by simpa using a1, a2, a3, a4, a5, a6, a7, a8⟩
theorem undP_len (q : List Ev) : ∀ i, (undP q i).length ≤ i := by
 intro i
 induction i with
 | zero => simp [undP]
 | succ i ih =>
  simp only [undP, List.length_append]
  have : (match q[i]? with | some x => if x.kind = 1 ∧ (q.drop (i + 1)).any (endOf x) = false then [x] else [] | none => ([] : List Ev)).length ≤ 1 := by
   split
   ·split <;> simp
   ·simp
  omega
theorem undP_mem (q : List Ev) : ∀ i, ∀ x ∈ undP q i, x ∈ q := by
 intro i
 induction i with
 | zero => intro x h; cases h
 | succ i ih =>
  intro x h
  simp only [undP] at h
  rcases List.mem_append.1 h with h | h
  ·exact ih x h
  ·split at h
   ·rename_i y hy
    split at h
    ·rw [List.mem_singleton] at h; rw [h]; exact List.mem_of_getElem? hy
    ·cases h
   ·cases h
def rUnd_pre (p : Option Addr) (n c : Nat) (k : Int) (m : Mem) : Prop := ∃ l, EvsAt m p n l ∧ 0 ≤ k ∧ k ≤ n ∧ n ≤ 1000000
def rUnd_post (p : Option Addr) (n c : Nat) (k : Int) (m : Mem) (q : Option Addr) (n' c' : Nat) : Prop := ∀ l, EvsAt m p n l → EvsAt m q n' (und (l.take k.toNat)) ∧ n' ≤ n
def rUnd : Sp := { args := [.sl, .i .i64], grp := [none, none], res := [.sl], rgrp := [none], fn := 164, spec := fun a0 a1 a2 a3 => (rUnd_pre a0 a1 a2 a3, rUnd_post a0 a1 a2 a3) }
def rUnd_VC : Prop := ∀ m : Mem, ∀ (p0 : Option Addr) (n0 c0 : Nat), n0 ≤ 9223372036854775807 → c0 ≤ 9223372036854775807 → ∀ x2 : Int, mi ≤ x2 → x2 ≤ ma → rUnd_pre p0 n0 c0 x2 m →
 (∃ F1 : Option Addr → Nat → Nat → Int → List Value → Prop × Nat, ((K.i64 0) ∧ (F1 none 0 0 0 []).1) ∧
 ∀ (p1 : Option Addr) (n1 c1 : Nat), n1 ≤ 9223372036854775807 → c1 ≤ 9223372036854775807 → ∀ x5 : Int, mi ≤ x5 → x5 ≤ ma → ∀ r0 : List Value, (F1 p1 n1 c1 x5 r0).1 →
 ((x5 < x2 →
 (0 ≤ x5 ∧ (x5 < (n0 : Int) ∧ (p0 ≠ none ∧ (HasI m p0 (0 + (x5 * 8)) 1 ∧ (∃ x6 : Int, cellI m p0 (0 + (x5 * 8)) = some (vI x6) ∧ (K.i64 x6) ∧ ((x6 ≠ 1 →
 ((x5 + 1) ≤ 9223372036854775807 ∧ ((n1 ≤ 9223372036854775807 ∧ c1 ≤ 9223372036854775807) ∧ (mi ≤ (x5 + 1) ∧ (x5 + 1) ≤ ma) ∧ ((F1 (p1.map fun p => p.add 0) n1 c1 (x5 + 1) r0).1 ∧ (F1 (p1.map fun p => p.add 0) n1 c1 (x5 + 1) r0).2 < (F1 p1 n1 c1 x5 r0).2)))) ∧
 (x6 = 1 →
 ((x5 + 1) ≤ 9223372036854775807 ∧ (∃ F2 : Bool → Int → Prop × Nat, ((mi ≤ (x5 + 1) ∧ (x5 + 1) ≤ ma) ∧ (F2 false (x5 + 1)).1) ∧
 ∀ b0 : Bool, ∀ x7 : Int, mi ≤ x7 → x7 ≤ ma → (F2 b0 x7).1 →
 ((x7 < x2 →
 (0 ≤ x7 ∧ (x7 < (n0 : Int) ∧ (p0 ≠ none ∧ (HasI m p0 (0 + (x7 * 8)) 1 ∧ (∃ x8 : Int, cellI m p0 (0 + (x7 * 8)) = some (vI x8) ∧ (K.i64 x8) ∧ ((x8 = 2 →
 (0 ≤ x7 ∧ (x7 < (n0 : Int) ∧ (p0 ≠ none ∧ (HasI m p0 ((0 + (x7 * 8)) + 5) 1 ∧ (∃ x9 : Int, cellI m p0 ((0 + (x7 * 8)) + 5) = some (vI x9) ∧ (K.i64 x9) ∧ (0 ≤ x5 ∧ (x5 < (n0 : Int) ∧ (p0 ≠ none ∧ (HasI m p0 ((0 + (x5 * 8)) + 5) 1 ∧ (∃ x10 : Int, cellI m p0 ((0 + (x5 * 8)) + 5) = some (vI x10) ∧ (K.i64 x10) ∧ ((x9 = x10 →
 ((x7 + 1) ≤ 9223372036854775807 ∧ ((mi ≤ (x7 + 1) ∧ (x7 + 1) ≤ ma) ∧ ((F2 true (x7 + 1)).1 ∧ (F2 true (x7 + 1)).2 < (F2 b0 x7).2)))) ∧
 (x9 ≠ x10 →
 ((x7 + 1) ≤ 9223372036854775807 ∧ ((mi ≤ (x7 + 1) ∧ (x7 + 1) ≤ ma) ∧ ((F2 b0 (x7 + 1)).1 ∧ (F2 b0 (x7 + 1)).2 < (F2 b0 x7).2)))))))))))))))) ∧
 (x8 ≠ 2 →
 (0 ≤ x7 ∧ (x7 < (n0 : Int) ∧ (p0 ≠ none ∧ (HasI m p0 (0 + (x7 * 8)) 1 ∧ ((x8 = 3 →
 (0 ≤ x7 ∧ (x7 < (n0 : Int) ∧ (p0 ≠ none ∧ (HasI m p0 ((0 + (x7 * 8)) + 5) 1 ∧ (∃ x9 : Int, cellI m p0 ((0 + (x7 * 8)) + 5) = some (vI x9) ∧ (K.i64 x9) ∧ (0 ≤ x5 ∧ (x5 < (n0 : Int) ∧ (p0 ≠ none ∧ (HasI m p0 ((0 + (x5 * 8)) + 5) 1 ∧ (∃ x10 : Int, cellI m p0 ((0 + (x5 * 8)) + 5) = some (vI x10) ∧ (K.i64 x10) ∧ ((x9 = x10 →
 ((x7 + 1) ≤ 9223372036854775807 ∧ ((mi ≤ (x7 + 1) ∧ (x7 + 1) ≤ ma) ∧ ((F2 true (x7 + 1)).1 ∧ (F2 true (x7 + 1)).2 < (F2 b0 x7).2)))) ∧
 (x9 ≠ x10 →
 ((x7 + 1) ≤ 9223372036854775807 ∧ ((mi ≤ (x7 + 1) ∧ (x7 + 1) ≤ ma) ∧ ((F2 b0 (x7 + 1)).1 ∧ (F2 b0 (x7 + 1)).2 < (F2 b0 x7).2)))))))))))))))) ∧
 (x8 ≠ 3 →
 ((x7 + 1) ≤ 9223372036854775807 ∧ ((mi ≤ (x7 + 1) ∧ (x7 + 1) ≤ ma) ∧ ((F2 b0 (x7 + 1)).1 ∧ (F2 b0 (x7 + 1)).2 < (F2 b0 x7).2))))))))))))))))) ∧
 (x2 ≤ x7 →
 ((b0 = false →
 (0 ≤ x5 ∧ (x5 < (n0 : Int) ∧ (p0 ≠ none ∧ (HasI m p0 (0 + (x5 * 8)) 8 ∧ (∃ x8 : Int, cellI m p0 ((0 + (x5 * 8)) + 1) = some (vI x8) ∧ (K.i64 x8) ∧ (∃ x9 : Int, cellI m p0 ((0 + (x5 * 8)) + 2) = some (vI x9) ∧ (K.i64 x9) ∧ (∃ x10 : Int, cellI m p0 ((0 + (x5 * 8)) + 3) = some (vI x10) ∧ (K.i64 x10) ∧ (∃ x11 : Int, cellI m p0 ((0 + (x5 * 8)) + 4) = some (vI x11) ∧ (K.i64 x11) ∧ (∃ x12 : Int, cellI m p0 ((0 + (x5 * 8)) + 5) = some (vI x12) ∧ (K.i64 x12) ∧ (∃ x13 : Int, cellI m p0 ((0 + (x5 * 8)) + 6) = some (vI x13) ∧ (K.i64 x13) ∧ (∃ x14 : Int, cellI m p0 ((0 + (x5 * 8)) + 7) = some (vI x14) ∧ (K.i64 x14) ∧ ((2 * ((n1 : Int) + 1) * 64 ≤ 281474976710656) ∧ ∀ (p2 : Addr) (c2 : Nat) (r1 : List Value), r1 = r0 ++ [(vI x6), (vI x8), (vI x9), (vI x10), (vI x11), (vI x12), (vI x13), (vI x14)] → (n1 : Int) + 1 ≤ (c2 : Int) → c2 ≤ 9223372036854775807 → ((x5 + 1) ≤ 9223372036854775807 ∧ (((Int.toNat ((n1 : Int) + 1)) ≤ 9223372036854775807 ∧ c2 ≤ 9223372036854775807) ∧ (mi ≤ (x5 + 1) ∧ (x5 + 1) ≤ ma) ∧ ((F1 ((some p2).map fun p => p.add 0) (Int.toNat ((n1 : Int) + 1)) c2 (x5 + 1) r1).1 ∧ (F1 ((some p2).map fun p => p.add 0) (Int.toNat ((n1 : Int) + 1)) c2 (x5 + 1) r1).2 < (F1 p1 n1 c1 x5 r0).2)))))))))))))))) ∧
 (b0 = true →
 ((x5 + 1) ≤ 9223372036854775807 ∧ ((n1 ≤ 9223372036854775807 ∧ c1 ≤ 9223372036854775807) ∧ (mi ≤ (x5 + 1) ∧ (x5 + 1) ≤ ma) ∧ ((F1 (p1.map fun p => p.add 0) n1 c1 (x5 + 1) r0).1 ∧ (F1 (p1.map fun p => p.add 0) n1 c1 (x5 + 1) r0).2 < (F1 p1 n1 c1 x5 r0).2))))))))))))))))) ∧
 (x2 ≤ x5 →
 (∀ m2 : Mem, MemSub m m2 → RowAt m2 p1 r0 → ((n1 ≤ 9223372036854775807 ∧ c1 ≤ 9223372036854775807) ∧ rUnd_post p0 n0 c0 x2 m2 (p1.map fun p => p.add 0) n1 c1)))))
theorem rUnd_vc : rUnd_VC := by
 intro m p n c hn hc k hk1 hk2 ⟨l, hl, h0, hkn, hb⟩
 have hlen := hl.1
 obtain ⟨kk, rfl⟩ := Int.eq_ofNat_of_zero_le h0
 have hKn : kk ≤ n := by omega
 generalize hq : l.take kk = q
 have hql : q.length = kk := by rw [← hq, List.length_take]; omega
 have hqi : ∀ i, i < kk → q[i]? = l[i]? := fun i hi => by rw [← hq, List.getElem?_take_of_lt hi]
 refine ⟨fun p1 n1 c1 x r => (∃ i : Nat, x = i ∧ i ≤ kk ∧ r = evRow (undP q i) ∧ n1 = (undP q i).length ∧ (p1 = none → r = []), ((kk : Int) - x).toNat), ⟨by constructor <;> decide, 0, rfl, by omega, rfl, rfl, fun _ => rfl⟩, ?_⟩
 rintro p1 n1 c1 h1 h2 x h3 h4 r ⟨i, rfl, hi, rfl, rfl, hp1⟩
 have hul := undP_len q i
 refine ⟨fun hlt => ?_, fun hge => ?_⟩
 ·have hiK : i < kk := by omega
  obtain ⟨x, hx, hp, hev, hhas⟩ := hl.at_ (i := (i : Int)) (by omega) (by omega)
  rw [Int.toNat_natCast] at hx
  have hqx : q[i]? = some x := by rw [hqi i hiK]; exact hx
  have hki1 : K.i64 ((i : Int) + 1) := k64 (by omega) (by omega)
  have skip : undP q (i + 1) = undP q i → (i : Int) + 1 ≤ 9223372036854775807 ∧ (((undP q i).length ≤ 9223372036854775807 ∧ c1 ≤ 9223372036854775807) ∧ (IntKind.i64.min ≤ ((i : Int) + 1) ∧ ((i : Int) + 1) ≤ IntKind.i64.max) ∧
    ((∃ i' : Nat, (i : Int) + 1 = i' ∧ i' ≤ kk ∧ evRow (undP q i) = evRow (undP q i') ∧ (undP q i).length = (undP q i').length ∧ ((p1.map fun p => p.add 0) = none → evRow (undP q i) = [])) ∧ ((kk : Int) - ((i : Int) + 1)).toNat < ((kk : Int) - (i : Int)).toNat)) := fun h => by
   refine ⟨by omega, ⟨h1, h2⟩, hki1, ⟨i + 1, by omega, by omega, by rw [h], by rw [h], by rw [map_add0]; exact hp1⟩, by omega⟩
  refine ⟨by omega, by omega, hp, hev.1.has, x.kind, hev.1.1, hev.1.2, fun hk => skip (by simp only [undP, hqx]; rw [if_neg (by intro h; exact hk h.1)]; simp), fun hk => ⟨by omega, ?_⟩⟩
  refine ⟨fun b y => (∃ j : Nat, y = j ∧ i + 1 ≤ j ∧ j ≤ kk ∧ b = ((q.take j).drop (i + 1)).any (endOf x), ((kk : Int) - y).toNat), ⟨hki1, i + 1, by omega, by omega, by omega, ?_⟩, ?_⟩
  ·rw [List.drop_eq_nil_of_le (by rw [List.length_take]; omega)]; rfl
  rintro b0 y g1 g2 ⟨j, rfl, hj1, hj2, rfl⟩
  refine ⟨fun hlt2 => ?_, fun hge2 => ?_⟩
  ·have hjK : j < kk := by omega
   obtain ⟨y, hy, _, hey, _⟩ := hl.at_ (i := (j : Int)) (by omega) (by omega)
   rw [Int.toNat_natCast] at hy
   have hqy : q[j]? = some y := by rw [hqi j hjK]; exact hy
   have hstep : (q.take (j + 1)).drop (i + 1) = (q.take j).drop (i + 1) ++ [y] := by
    have hjl : j < q.length := by omega
    rw [← List.take_append_getElem hjl, List.drop_append_of_le_length (by rw [List.length_take]; omega)]
    rw [List.getElem?_eq_getElem hjl] at hqy
    rw [Option.some.inj hqy]
   have hany : ((q.take (j + 1)).drop (i + 1)).any (endOf x) = (((q.take j).drop (i + 1)).any (endOf x) || endOf x y) := by rw [hstep]; simp
   have go : ∀ b, b = (((q.take j).drop (i + 1)).any (endOf x) || endOf x y) → (j : Int) + 1 ≤ 9223372036854775807 ∧ ((IntKind.i64.min ≤ ((j : Int) + 1) ∧ ((j : Int) + 1) ≤ IntKind.i64.max) ∧
     ((∃ j' : Nat, (j : Int) + 1 = j' ∧ i + 1 ≤ j' ∧ j' ≤ kk ∧ b = ((q.take j').drop (i + 1)).any (endOf x)) ∧ ((kk : Int) - ((j : Int) + 1)).toNat < ((kk : Int) - (j : Int)).toNat)) := fun b hb => by
    refine ⟨by omega, k64 (by omega) (by omega), ⟨j + 1, by omega, by omega, by omega, by rw [hany]; exact hb⟩, by omega⟩
   have two : isEnd y = true → (y.run = x.run → true = (((q.take j).drop (i + 1)).any (endOf x) || endOf x y)) ∧ (y.run ≠ x.run → ((q.take j).drop (i + 1)).any (endOf x) = (((q.take j).drop (i + 1)).any (endOf x) || endOf x y)) := fun he => by
    refine ⟨fun h => by simp [endOf, he, h], fun h => ?_⟩
    have : endOf x y = false := by simp [endOf, he]; omega
    rw [this, Bool.or_false]
   refine ⟨by omega, by omega, hp, hey.1.has, y.kind, hey.1.1, hey.1.2, fun h2 => ?_, fun h2 => ⟨by omega, by omega, hp, hey.1.has, fun h3 => ?_, fun h3 => ?_⟩⟩
   ·have he : isEnd y = true := by simp [isEnd, h2]
    exact ⟨by omega, by omega, hp, hey.2.2.2.2.2.1.has, y.run, hey.2.2.2.2.2.1.1, hey.2.2.2.2.2.1.2, by omega, by omega, hp, hev.2.2.2.2.2.1.has, x.run, hev.2.2.2.2.2.1.1, hev.2.2.2.2.2.1.2, fun h => go _ ((two he).1 h), fun h => go _ ((two he).2 h)⟩
   ·have he : isEnd y = true := by simp [isEnd, h3]
    exact ⟨by omega, by omega, hp, hey.2.2.2.2.2.1.has, y.run, hey.2.2.2.2.2.1.1, hey.2.2.2.2.2.1.2, by omega, by omega, hp, hev.2.2.2.2.2.1.has, x.run, hev.2.2.2.2.2.1.1, hev.2.2.2.2.2.1.2, fun h => go _ ((two he).1 h), fun h => go _ ((two he).2 h)⟩
   ·refine go _ ?_
    have : endOf x y = false := by simp [endOf, isEnd, h2, h3]
    rw [this, Bool.or_false]
  ·have hjK : j = kk := by omega
   subst hjK
   rw [List.take_of_length_le (by omega)]
   refine ⟨fun hb => ?_, fun hb => skip (by simp only [undP, hqx]; rw [if_neg (by rw [hb]; simp)]; simp)⟩
   have hsnoc : undP q (i + 1) = undP q i ++ [x] := by simp only [undP, hqx]; rw [if_pos ⟨hk, hb⟩]
   refine ⟨by omega, by omega, hp, hhas, x.at_, hev.2.1.1, hev.2.1.2, x.job, hev.2.2.1.1, hev.2.2.1.2, x.due, hev.2.2.2.1.1, hev.2.2.2.1.2, x.attempt, hev.2.2.2.2.1.1, hev.2.2.2.2.1.2, x.run, hev.2.2.2.2.2.1.1, hev.2.2.2.2.2.1.2, x.why, hev.2.2.2.2.2.2.1.1, hev.2.2.2.2.2.2.1.2, x.when_, hev.2.2.2.2.2.2.2.1, hev.2.2.2.2.2.2.2.2, by omega, ?_⟩
   intro p2 c2 r1 hr1 hc1 hc2
   refine ⟨by omega, ⟨by omega, hc2⟩, hki1, ⟨i + 1, by omega, by omega, ?_, ?_, fun e => by cases e⟩, by first | omega | (simp only; omega)⟩
   ·rw [hr1, hsnoc, evRow_app]; rfl
   ·rw [hsnoc]; simp
 ·have hiK : i = q.length := by omega
  subst hiK
  intro m2 hm hrow
  rw [map_add0]
  refine ⟨⟨h1, h2⟩, fun l2 hl2 => ?_⟩
  have := hl.uniq hm hl2
  subst this
  simp only [Int.toNat_natCast]
  rw [hq, ← und_eq q]
  exact ⟨evRow_at ⟨hrow, hp1⟩ (fun y hy => hl.ok y (List.mem_of_mem_take (by rw [hq]; exact undP_mem q _ y hy))), by omega⟩
theorem rUnd_pg : ∀ m, forallF rUnd.args rUnd.spec fun r => r.1 m → GlobsAt m [] := fun m a b c d h => trivial
theorem rUnd_ok : SpOk Tryz.prog rUnd :=
 con_okZ [] [] [] rfl (sps_of [] trivial rfl) (tab_ok _ [⟨(64, 3), [], [], [(5, 57)], []⟩, ⟨(64, 8), [], [], [], []⟩]) 1000 rUnd _ rfl rfl rUnd_pg (Eq.mp (show rUnd_VC = _ by kernel_rfl) rUnd_vc)
end Go.Proofs.YtmpbddmbpeoehaaGreatDoor.Vc
namespace Go.Proofs.YtmpbddmbpeoehaaGreatDoor.Vc
open As
theorem poss_of {jobs : Int} {p : List Ev} {x : Ev} (h : evErr jobs p x = 0) : Poss p x := by
 unfold evErr at h
 split at h
 ·rename_i h1; exact (h1 h).elim
 ·split at h
  ·cases h
  ·split at h
   ·cases h
   ·unfold evRun at h
    refine ⟨fun hk => ?_, fun he => ?_⟩
    ·rw [if_pos hk] at h
     split at h
     ·cases h
     ·rename_i h1; omega
    ·have hk : x.kind ≠ 1 := by intro hk; simp [isEnd, hk] at he
     rw [if_neg hk, if_pos he] at h
     split at h
     ·rename_i ha
      rw [List.any_eq_true] at ha
      obtain ⟨u, hu, hm⟩ := ha
      simp only [evMatch, Bool.and_eq_true, beq_iff_eq] at hm
      exact ⟨u, hu, hm.1, hm.2.1, hm.2.2.1, hm.2.2.2⟩
     ·cases h
def rPos_pre (p : Option Addr) (n c : Nat) (i j : Int) (m : Mem) : Prop := ∃ l, EvsAt m p n l ∧ 0 ≤ i ∧ i < n ∧ n ≤ 1000000 ∧ As.Trace (l.take i.toNat)
def rPos_post (p : Option Addr) (n c : Nat) (i j : Int) (m : Mem) (z : Int) : Prop := ∀ l x, EvsAt m p n l → l[i.toNat]? = some x → z = evErr j (l.take i.toNat) x
def rPos : Sp := { args := [.sl, .i .i64, .i .i64], grp := [none, none, none], res := [.i .i64], rgrp := [none], fn := 114, spec := fun a0 a1 a2 a3 a4 => (rPos_pre a0 a1 a2 a3 a4, rPos_post a0 a1 a2 a3 a4) }
def rPos_VC : Prop := ∀ m : Mem, ∀ (p0 : Option Addr) (n0 c0 : Nat), n0 ≤ 9223372036854775807 → c0 ≤ 9223372036854775807 → ∀ x2 : Int, mi ≤ x2 → x2 ≤ ma → ∀ x3 : Int, mi ≤ x3 → x3 ≤ ma → rPos_pre p0 n0 c0 x2 x3 m →
 (0 ≤ x2 ∧ (x2 < (n0 : Int) ∧ (p0 ≠ none ∧ (HasI m p0 (0 + (x2 * 8)) 8 ∧ (∃ x4 : Int, cellI m p0 (0 + (x2 * 8)) = some (vI x4) ∧ (K.i64 x4) ∧ (∃ x5 : Int, cellI m p0 ((0 + (x2 * 8)) + 1) = some (vI x5) ∧ (K.i64 x5) ∧ (∃ x6 : Int, cellI m p0 ((0 + (x2 * 8)) + 2) = some (vI x6) ∧ (K.i64 x6) ∧ (∃ x7 : Int, cellI m p0 ((0 + (x2 * 8)) + 3) = some (vI x7) ∧ (K.i64 x7) ∧ (∃ x8 : Int, cellI m p0 ((0 + (x2 * 8)) + 4) = some (vI x8) ∧ (K.i64 x8) ∧ (∃ x9 : Int, cellI m p0 ((0 + (x2 * 8)) + 5) = some (vI x9) ∧ (K.i64 x9) ∧ (∃ x10 : Int, cellI m p0 ((0 + (x2 * 8)) + 6) = some (vI x10) ∧ (K.i64 x10) ∧ (∃ x11 : Int, cellI m p0 ((0 + (x2 * 8)) + 7) = some (vI x11) ∧ (K.i64 x11) ∧ (refCheck_pre x4 x5 x6 x7 x8 x9 x10 x11 m ∧ ∀ m1 : Mem, MemSub m m1 → ∀ x12 : Int, mi ≤ x12 → x12 ≤ ma → refCheck_post x4 x5 x6 x7 x8 x9 x10 x11 m1 x12 →
 ((x12 ≠ 0 →
 ((K.i64 x12) ∧ rPos_post p0 n0 c0 x2 x3 m1 x12)) ∧
 (x12 = 0 →
 ((x4 ≠ 6 →
 ((x3 ≤ x6 →
 ((K.i64 3) ∧ rPos_post p0 n0 c0 x2 x3 m1 3)) ∧
 (x6 < x3 →
 ((0 < x2 →
 ((x2 - 1) < (n0 : Int) ∧ (p0 ≠ none ∧ (HasI m1 p0 ((0 + ((x2 - 1) * 8)) + 1) 1 ∧ (∃ x13 : Int, cellI m1 p0 ((0 + ((x2 - 1) * 8)) + 1) = some (vI x13) ∧ (K.i64 x13) ∧ ((x5 < x13 →
 ((K.i64 8) ∧ rPos_post p0 n0 c0 x2 x3 m1 8)) ∧
 (x13 ≤ x5 →
 ((x4 = 1 →
 (∃ F2 : Int → Int → Prop × Nat, ((K.i64 0) ∧ (K.i64 0) ∧ (F2 0 0).1) ∧
 ∀ x14 : Int, mi ≤ x14 → x14 ≤ ma → ∀ x15 : Int, mi ≤ x15 → x15 ≤ ma → (F2 x14 x15).1 →
 ((x15 < x2 →
 (0 ≤ x15 ∧ (x15 < (n0 : Int) ∧ (p0 ≠ none ∧ (HasI m1 p0 (0 + (x15 * 8)) 1 ∧ (∃ x16 : Int, cellI m1 p0 (0 + (x15 * 8)) = some (vI x16) ∧ (K.i64 x16) ∧ ((x16 = 1 →
 (0 ≤ x15 ∧ (x15 < (n0 : Int) ∧ (p0 ≠ none ∧ (HasI m1 p0 ((0 + (x15 * 8)) + 5) 1 ∧ (∃ x17 : Int, cellI m1 p0 ((0 + (x15 * 8)) + 5) = some (vI x17) ∧ (K.i64 x17) ∧ ((x15 + 1) ≤ 9223372036854775807 ∧ ((K.i64 x17) ∧ (mi ≤ (x15 + 1) ∧ (x15 + 1) ≤ ma) ∧ ((F2 x17 (x15 + 1)).1 ∧ (F2 x17 (x15 + 1)).2 < (F2 x14 x15).2))))))))) ∧
 (x16 ≠ 1 →
 ((x15 + 1) ≤ 9223372036854775807 ∧ ((K.i64 x14) ∧ (mi ≤ (x15 + 1) ∧ (x15 + 1) ≤ ma) ∧ ((F2 x14 (x15 + 1)).1 ∧ (F2 x14 (x15 + 1)).2 < (F2 x14 x15).2))))))))))) ∧
 (x2 ≤ x15 →
 ((x14 + 1) ≤ 9223372036854775807 ∧ ((x9 ≠ (x14 + 1) →
 ((K.i64 8) ∧ rPos_post p0 n0 c0 x2 x3 m1 8)) ∧
 (x9 = (x14 + 1) →
 ((K.i64 0) ∧ rPos_post p0 n0 c0 x2 x3 m1 0)))))))) ∧
 (x4 ≠ 1 →
 ((x4 = 2 →
 ((n0 ≤ 9223372036854775807 ∧ c0 ≤ 9223372036854775807) ∧ rUnd_pre (p0.map fun p => p.add 0) n0 c0 x2 m1 ∧ ∀ m2 : Mem, MemSub m1 m2 → ∀ (p1 : Option Addr) (n1 c1 : Nat), n1 ≤ 9223372036854775807 → c1 ≤ 9223372036854775807 → rUnd_post (p0.map fun p => p.add 0) n0 c0 x2 m2 p1 n1 c1 →
 (∃ F3 : Int → Int → Prop × Nat, ((K.i64 0) ∧ (K.i64 0) ∧ (F3 0 0).1) ∧
 ∀ x16 : Int, mi ≤ x16 → x16 ≤ ma → ∀ x17 : Int, mi ≤ x17 → x17 ≤ ma → (F3 x16 x17).1 →
 ((x17 < (n1 : Int) →
 (0 ≤ x17 ∧ (p1 ≠ none ∧ (HasI m2 p1 ((0 + (x17 * 8)) + 5) 1 ∧ (∃ x18 : Int, cellI m2 p1 ((0 + (x17 * 8)) + 5) = some (vI x18) ∧ (K.i64 x18) ∧ ((x18 = x9 →
 (0 ≤ x17 ∧ (p1 ≠ none ∧ (HasI m2 p1 ((0 + (x17 * 8)) + 2) 1 ∧ (∃ x19 : Int, cellI m2 p1 ((0 + (x17 * 8)) + 2) = some (vI x19) ∧ (K.i64 x19) ∧ ((x19 = x6 →
 (0 ≤ x17 ∧ (p1 ≠ none ∧ (HasI m2 p1 ((0 + (x17 * 8)) + 3) 1 ∧ (∃ x20 : Int, cellI m2 p1 ((0 + (x17 * 8)) + 3) = some (vI x20) ∧ (K.i64 x20) ∧ ((x20 = x7 →
 (0 ≤ x17 ∧ (p1 ≠ none ∧ (HasI m2 p1 ((0 + (x17 * 8)) + 4) 1 ∧ (∃ x21 : Int, cellI m2 p1 ((0 + (x17 * 8)) + 4) = some (vI x21) ∧ (K.i64 x21) ∧ ((x21 = x8 →
 ((K.i64 0) ∧ rPos_post p0 n0 c0 x2 x3 m2 0)) ∧
 (x21 ≠ x8 →
 ((x17 + 1) ≤ 9223372036854775807 ∧ ((K.i64 x16) ∧ (mi ≤ (x17 + 1) ∧ (x17 + 1) ≤ ma) ∧ ((F3 x16 (x17 + 1)).1 ∧ (F3 x16 (x17 + 1)).2 < (F3 x16 x17).2)))))))))) ∧
 (x20 ≠ x7 →
 ((x17 + 1) ≤ 9223372036854775807 ∧ ((K.i64 x16) ∧ (mi ≤ (x17 + 1) ∧ (x17 + 1) ≤ ma) ∧ ((F3 x16 (x17 + 1)).1 ∧ (F3 x16 (x17 + 1)).2 < (F3 x16 x17).2)))))))))) ∧
 (x19 ≠ x6 →
 ((x17 + 1) ≤ 9223372036854775807 ∧ ((K.i64 x16) ∧ (mi ≤ (x17 + 1) ∧ (x17 + 1) ≤ ma) ∧ ((F3 x16 (x17 + 1)).1 ∧ (F3 x16 (x17 + 1)).2 < (F3 x16 x17).2)))))))))) ∧
 (x18 ≠ x9 →
 ((x17 + 1) ≤ 9223372036854775807 ∧ ((K.i64 x16) ∧ (mi ≤ (x17 + 1) ∧ (x17 + 1) ≤ ma) ∧ ((F3 x16 (x17 + 1)).1 ∧ (F3 x16 (x17 + 1)).2 < (F3 x16 x17).2)))))))))) ∧
 ((n1 : Int) ≤ x17 →
 ((K.i64 8) ∧ rPos_post p0 n0 c0 x2 x3 m2 8)))))) ∧
 (x4 ≠ 2 →
 ((x4 = 3 →
 ((n0 ≤ 9223372036854775807 ∧ c0 ≤ 9223372036854775807) ∧ rUnd_pre (p0.map fun p => p.add 0) n0 c0 x2 m1 ∧ ∀ m2 : Mem, MemSub m1 m2 → ∀ (p1 : Option Addr) (n1 c1 : Nat), n1 ≤ 9223372036854775807 → c1 ≤ 9223372036854775807 → rUnd_post (p0.map fun p => p.add 0) n0 c0 x2 m2 p1 n1 c1 →
 (∃ F3 : Int → Int → Prop × Nat, ((K.i64 0) ∧ (K.i64 0) ∧ (F3 0 0).1) ∧
 ∀ x16 : Int, mi ≤ x16 → x16 ≤ ma → ∀ x17 : Int, mi ≤ x17 → x17 ≤ ma → (F3 x16 x17).1 →
 ((x17 < (n1 : Int) →
 (0 ≤ x17 ∧ (p1 ≠ none ∧ (HasI m2 p1 ((0 + (x17 * 8)) + 5) 1 ∧ (∃ x18 : Int, cellI m2 p1 ((0 + (x17 * 8)) + 5) = some (vI x18) ∧ (K.i64 x18) ∧ ((x18 = x9 →
 (0 ≤ x17 ∧ (p1 ≠ none ∧ (HasI m2 p1 ((0 + (x17 * 8)) + 2) 1 ∧ (∃ x19 : Int, cellI m2 p1 ((0 + (x17 * 8)) + 2) = some (vI x19) ∧ (K.i64 x19) ∧ ((x19 = x6 →
 (0 ≤ x17 ∧ (p1 ≠ none ∧ (HasI m2 p1 ((0 + (x17 * 8)) + 3) 1 ∧ (∃ x20 : Int, cellI m2 p1 ((0 + (x17 * 8)) + 3) = some (vI x20) ∧ (K.i64 x20) ∧ ((x20 = x7 →
 (0 ≤ x17 ∧ (p1 ≠ none ∧ (HasI m2 p1 ((0 + (x17 * 8)) + 4) 1 ∧ (∃ x21 : Int, cellI m2 p1 ((0 + (x17 * 8)) + 4) = some (vI x21) ∧ (K.i64 x21) ∧ ((x21 = x8 →
 ((K.i64 0) ∧ rPos_post p0 n0 c0 x2 x3 m2 0)) ∧
 (x21 ≠ x8 →
 ((x17 + 1) ≤ 9223372036854775807 ∧ ((K.i64 x16) ∧ (mi ≤ (x17 + 1) ∧ (x17 + 1) ≤ ma) ∧ ((F3 x16 (x17 + 1)).1 ∧ (F3 x16 (x17 + 1)).2 < (F3 x16 x17).2)))))))))) ∧
 (x20 ≠ x7 →
 ((x17 + 1) ≤ 9223372036854775807 ∧ ((K.i64 x16) ∧ (mi ≤ (x17 + 1) ∧ (x17 + 1) ≤ ma) ∧ ((F3 x16 (x17 + 1)).1 ∧ (F3 x16 (x17 + 1)).2 < (F3 x16 x17).2)))))))))) ∧
 (x19 ≠ x6 →
 ((x17 + 1) ≤ 9223372036854775807 ∧ ((K.i64 x16) ∧ (mi ≤ (x17 + 1) ∧ (x17 + 1) ≤ ma) ∧ ((F3 x16 (x17 + 1)).1 ∧ (F3 x16 (x17 + 1)).2 < (F3 x16 x17).2)))))))))) ∧
 (x18 ≠ x9 →
 ((x17 + 1) ≤ 9223372036854775807 ∧ ((K.i64 x16) ∧ (mi ≤ (x17 + 1) ∧ (x17 + 1) ≤ ma) ∧ ((F3 x16 (x17 + 1)).1 ∧ (F3 x16 (x17 + 1)).2 < (F3 x16 x17).2)))))))))) ∧
 ((n1 : Int) ≤ x17 →
 ((K.i64 8) ∧ rPos_post p0 n0 c0 x2 x3 m2 8)))))) ∧
 (x4 ≠ 3 →
 ((K.i64 0) ∧ rPos_post p0 n0 c0 x2 x3 m1 0)))))))))))))) ∧
 (x2 ≤ 0 →
 ((x4 = 1 →
 (∃ F2 : Int → Int → Prop × Nat, ((K.i64 0) ∧ (K.i64 0) ∧ (F2 0 0).1) ∧
 ∀ x13 : Int, mi ≤ x13 → x13 ≤ ma → ∀ x14 : Int, mi ≤ x14 → x14 ≤ ma → (F2 x13 x14).1 →
 ((x14 < x2 →
 (0 ≤ x14 ∧ (x14 < (n0 : Int) ∧ (p0 ≠ none ∧ (HasI m1 p0 (0 + (x14 * 8)) 1 ∧ (∃ x15 : Int, cellI m1 p0 (0 + (x14 * 8)) = some (vI x15) ∧ (K.i64 x15) ∧ ((x15 = 1 →
 (0 ≤ x14 ∧ (x14 < (n0 : Int) ∧ (p0 ≠ none ∧ (HasI m1 p0 ((0 + (x14 * 8)) + 5) 1 ∧ (∃ x16 : Int, cellI m1 p0 ((0 + (x14 * 8)) + 5) = some (vI x16) ∧ (K.i64 x16) ∧ ((x14 + 1) ≤ 9223372036854775807 ∧ ((K.i64 x16) ∧ (mi ≤ (x14 + 1) ∧ (x14 + 1) ≤ ma) ∧ ((F2 x16 (x14 + 1)).1 ∧ (F2 x16 (x14 + 1)).2 < (F2 x13 x14).2))))))))) ∧
 (x15 ≠ 1 →
 ((x14 + 1) ≤ 9223372036854775807 ∧ ((K.i64 x13) ∧ (mi ≤ (x14 + 1) ∧ (x14 + 1) ≤ ma) ∧ ((F2 x13 (x14 + 1)).1 ∧ (F2 x13 (x14 + 1)).2 < (F2 x13 x14).2))))))))))) ∧
 (x2 ≤ x14 →
 ((x13 + 1) ≤ 9223372036854775807 ∧ ((x9 ≠ (x13 + 1) →
 ((K.i64 8) ∧ rPos_post p0 n0 c0 x2 x3 m1 8)) ∧
 (x9 = (x13 + 1) →
 ((K.i64 0) ∧ rPos_post p0 n0 c0 x2 x3 m1 0)))))))) ∧
 (x4 ≠ 1 →
 ((x4 = 2 →
 ((n0 ≤ 9223372036854775807 ∧ c0 ≤ 9223372036854775807) ∧ rUnd_pre (p0.map fun p => p.add 0) n0 c0 x2 m1 ∧ ∀ m2 : Mem, MemSub m1 m2 → ∀ (p1 : Option Addr) (n1 c1 : Nat), n1 ≤ 9223372036854775807 → c1 ≤ 9223372036854775807 → rUnd_post (p0.map fun p => p.add 0) n0 c0 x2 m2 p1 n1 c1 →
 (∃ F3 : Int → Int → Prop × Nat, ((K.i64 0) ∧ (K.i64 0) ∧ (F3 0 0).1) ∧
 ∀ x15 : Int, mi ≤ x15 → x15 ≤ ma → ∀ x16 : Int, mi ≤ x16 → x16 ≤ ma → (F3 x15 x16).1 →
 ((x16 < (n1 : Int) →
 (0 ≤ x16 ∧ (p1 ≠ none ∧ (HasI m2 p1 ((0 + (x16 * 8)) + 5) 1 ∧ (∃ x17 : Int, cellI m2 p1 ((0 + (x16 * 8)) + 5) = some (vI x17) ∧ (K.i64 x17) ∧ ((x17 = x9 →
 (0 ≤ x16 ∧ (p1 ≠ none ∧ (HasI m2 p1 ((0 + (x16 * 8)) + 2) 1 ∧ (∃ x18 : Int, cellI m2 p1 ((0 + (x16 * 8)) + 2) = some (vI x18) ∧ (K.i64 x18) ∧ ((x18 = x6 →
 (0 ≤ x16 ∧ (p1 ≠ none ∧ (HasI m2 p1 ((0 + (x16 * 8)) + 3) 1 ∧ (∃ x19 : Int, cellI m2 p1 ((0 + (x16 * 8)) + 3) = some (vI x19) ∧ (K.i64 x19) ∧ ((x19 = x7 →
 (0 ≤ x16 ∧ (p1 ≠ none ∧ (HasI m2 p1 ((0 + (x16 * 8)) + 4) 1 ∧ (∃ x20 : Int, cellI m2 p1 ((0 + (x16 * 8)) + 4) = some (vI x20) ∧ (K.i64 x20) ∧ ((x20 = x8 →
 ((K.i64 0) ∧ rPos_post p0 n0 c0 x2 x3 m2 0)) ∧
 (x20 ≠ x8 →
 ((x16 + 1) ≤ 9223372036854775807 ∧ ((K.i64 x15) ∧ (mi ≤ (x16 + 1) ∧ (x16 + 1) ≤ ma) ∧ ((F3 x15 (x16 + 1)).1 ∧ (F3 x15 (x16 + 1)).2 < (F3 x15 x16).2)))))))))) ∧
 (x19 ≠ x7 →
 ((x16 + 1) ≤ 9223372036854775807 ∧ ((K.i64 x15) ∧ (mi ≤ (x16 + 1) ∧ (x16 + 1) ≤ ma) ∧ ((F3 x15 (x16 + 1)).1 ∧ (F3 x15 (x16 + 1)).2 < (F3 x15 x16).2)))))))))) ∧
 (x18 ≠ x6 →
 ((x16 + 1) ≤ 9223372036854775807 ∧ ((K.i64 x15) ∧ (mi ≤ (x16 + 1) ∧ (x16 + 1) ≤ ma) ∧ ((F3 x15 (x16 + 1)).1 ∧ (F3 x15 (x16 + 1)).2 < (F3 x15 x16).2)))))))))) ∧
 (x17 ≠ x9 →
 ((x16 + 1) ≤ 9223372036854775807 ∧ ((K.i64 x15) ∧ (mi ≤ (x16 + 1) ∧ (x16 + 1) ≤ ma) ∧ ((F3 x15 (x16 + 1)).1 ∧ (F3 x15 (x16 + 1)).2 < (F3 x15 x16).2)))))))))) ∧
 ((n1 : Int) ≤ x16 →
 ((K.i64 8) ∧ rPos_post p0 n0 c0 x2 x3 m2 8)))))) ∧
 (x4 ≠ 2 →
 ((x4 = 3 →
 ((n0 ≤ 9223372036854775807 ∧ c0 ≤ 9223372036854775807) ∧ rUnd_pre (p0.map fun p => p.add 0) n0 c0 x2 m1 ∧ ∀ m2 : Mem, MemSub m1 m2 → ∀ (p1 : Option Addr) (n1 c1 : Nat), n1 ≤ 9223372036854775807 → c1 ≤ 9223372036854775807 → rUnd_post (p0.map fun p => p.add 0) n0 c0 x2 m2 p1 n1 c1 →
 (∃ F3 : Int → Int → Prop × Nat, ((K.i64 0) ∧ (K.i64 0) ∧ (F3 0 0).1) ∧
 ∀ x15 : Int, mi ≤ x15 → x15 ≤ ma → ∀ x16 : Int, mi ≤ x16 → x16 ≤ ma → (F3 x15 x16).1 →
 ((x16 < (n1 : Int) →
 (0 ≤ x16 ∧ (p1 ≠ none ∧ (HasI m2 p1 ((0 + (x16 * 8)) + 5) 1 ∧ (∃ x17 : Int, cellI m2 p1 ((0 + (x16 * 8)) + 5) = some (vI x17) ∧ (K.i64 x17) ∧ ((x17 = x9 →
 (0 ≤ x16 ∧ (p1 ≠ none ∧ (HasI m2 p1 ((0 + (x16 * 8)) + 2) 1 ∧ (∃ x18 : Int, cellI m2 p1 ((0 + (x16 * 8)) + 2) = some (vI x18) ∧ (K.i64 x18) ∧ ((x18 = x6 →
 (0 ≤ x16 ∧ (p1 ≠ none ∧ (HasI m2 p1 ((0 + (x16 * 8)) + 3) 1 ∧ (∃ x19 : Int, cellI m2 p1 ((0 + (x16 * 8)) + 3) = some (vI x19) ∧ (K.i64 x19) ∧ ((x19 = x7 →
 (0 ≤ x16 ∧ (p1 ≠ none ∧ (HasI m2 p1 ((0 + (x16 * 8)) + 4) 1 ∧ (∃ x20 : Int, cellI m2 p1 ((0 + (x16 * 8)) + 4) = some (vI x20) ∧ (K.i64 x20) ∧ ((x20 = x8 →
 ((K.i64 0) ∧ rPos_post p0 n0 c0 x2 x3 m2 0)) ∧
 (x20 ≠ x8 →
 ((x16 + 1) ≤ 9223372036854775807 ∧ ((K.i64 x15) ∧ (mi ≤ (x16 + 1) ∧ (x16 + 1) ≤ ma) ∧ ((F3 x15 (x16 + 1)).1 ∧ (F3 x15 (x16 + 1)).2 < (F3 x15 x16).2)))))))))) ∧
 (x19 ≠ x7 →
 ((x16 + 1) ≤ 9223372036854775807 ∧ ((K.i64 x15) ∧ (mi ≤ (x16 + 1) ∧ (x16 + 1) ≤ ma) ∧ ((F3 x15 (x16 + 1)).1 ∧ (F3 x15 (x16 + 1)).2 < (F3 x15 x16).2)))))))))) ∧
 (x18 ≠ x6 →
 ((x16 + 1) ≤ 9223372036854775807 ∧ ((K.i64 x15) ∧ (mi ≤ (x16 + 1) ∧ (x16 + 1) ≤ ma) ∧ ((F3 x15 (x16 + 1)).1 ∧ (F3 x15 (x16 + 1)).2 < (F3 x15 x16).2)))))))))) ∧
 (x17 ≠ x9 →
 ((x16 + 1) ≤ 9223372036854775807 ∧ ((K.i64 x15) ∧ (mi ≤ (x16 + 1) ∧ (x16 + 1) ≤ ma) ∧ ((F3 x15 (x16 + 1)).1 ∧ (F3 x15 (x16 + 1)).2 < (F3 x15 x16).2)))))))))) ∧
 ((n1 : Int) ≤ x16 →
 ((K.i64 8) ∧ rPos_post p0 n0 c0 x2 x3 m2 8)))))) ∧
 (x4 ≠ 3 →
 ((K.i64 0) ∧ rPos_post p0 n0 c0 x2 x3 m1 0)))))))))))) ∧
 (x4 = 6 →
 ((0 < x2 →
 ((x2 - 1) < (n0 : Int) ∧ (p0 ≠ none ∧ (HasI m1 p0 ((0 + ((x2 - 1) * 8)) + 1) 1 ∧ (∃ x13 : Int, cellI m1 p0 ((0 + ((x2 - 1) * 8)) + 1) = some (vI x13) ∧ (K.i64 x13) ∧ ((x5 < x13 →
 ((K.i64 8) ∧ rPos_post p0 n0 c0 x2 x3 m1 8)) ∧
 (x13 ≤ x5 →
 ((K.i64 0) ∧ rPos_post p0 n0 c0 x2 x3 m1 0)))))))) ∧
 (x2 ≤ 0 →
 ((K.i64 0) ∧ rPos_post p0 n0 c0 x2 x3 m1 0))))))))))))))))))))
theorem rPos_vc : rPos_VC := by
 intro m p n c hn hc i hi1 hi2 jobs hj1 hj2 ⟨l, hl, h0, hlt, hb, htr⟩
 obtain ⟨i, rfl⟩ := Int.eq_ofNat_of_zero_le h0
 have hlen := hl.1
 rw [Int.toNat_natCast] at htr
 obtain ⟨x, hx, hp, hev, hhas⟩ := hl.at_ (i := (i : Int)) (by omega) hlt
 rw [Int.toNat_natCast] at hx
 have hil : i < l.length := by omega
 obtain ⟨k, at', job, due, att, run, why, whn⟩ := x
 have cc := hev
 obtain ⟨c1, c2, c3, c4, c5, c6, c7, c8⟩ := cc
 simp only at c1 c2 c3 c4 c5 c6 c7 c8
 refine ⟨by omega, hlt, hp, hhas, k, c1.1, c1.2, at', c2.1, c2.2, job, c3.1, c3.2, due, c4.1, c4.2, att, c5.1, c5.2, run, c6.1, c6.2, why, c7.1, c7.2, whn, c8.1, c8.2, trivial, ?_⟩
 intro m1 hm1 e he1 he2 hev2
 have hE : e = evP ⟨k, at', job, due, att, run, why, whn⟩ := by
  rw [ev_same _ c6.2.2]; exact hev2
 generalize hX : (⟨k, at', job, due, att, run, why, whn⟩ : Ev) = X at *
 have hk : X.kind = k := by rw [← hX]
 have hat : X.at_ = at' := by rw [← hX]
 have hjob : X.job = job := by rw [← hX]
 have hdue : X.due = due := by rw [← hX]
 have hatt : X.attempt = att := by rw [← hX]
 have hrun : X.run = run := by rw [← hX]
 have stop : ∀ (m' : Mem), MemSub m m' → ∀ e : Int, K.i64 e → evErr jobs (l.take i) X = e → (K.i64 e) ∧ rPos_post p n c i jobs m' e := fun m' hm e hK h1 => by
  refine ⟨hK, fun l2 x2 hl2 hx2 => ?_⟩
  have := hl.uniq hm hl2
  subst this
  rw [Int.toNat_natCast] at hx2 ⊢
  rw [hx] at hx2; cases hx2
  exact h1.symm
 have k8 : K.i64 8 := by constructor <;> decide
 have k0 : K.i64 0 := by constructor <;> decide
 have hlast := last_len htr
 have htl : ((l.take i).length : Int) = i := by rw [List.length_take]; omega
 have none_ : k ≠ 1 → k ≠ 2 → k ≠ 3 → evErr jobs (l.take i) X = evRun (l.take i) X → evErr jobs (l.take i) X = 0 := fun g1 g2 g3 he => by
  have hne : isEnd X = false := by simp [isEnd, hk, g2, g3]
  rw [he]
  unfold evRun
  rw [hk, if_neg g1, if_neg (by rw [hne]; simp)]
 have toRun : e = 0 → (k ≠ 6 → job < jobs) → backw (l.take i) X = false → evErr jobs (l.take i) X = evRun (l.take i) X := fun g1 g2 g3 => by
  unfold evErr
  rw [if_neg (by rw [← hE, g1]; simp), if_neg (by rw [hk, hjob]; intro h; have := g2 h.1; omega), if_neg (by rw [g3]; simp)]
 have toBack : e = 0 → (k ≠ 6 → job < jobs) → backw (l.take i) X = true → evErr jobs (l.take i) X = 8 := fun g1 g2 g3 => by
  unfold evErr
  rw [if_neg (by rw [← hE, g1]; simp), if_neg (by rw [hk, hjob]; intro h; have := g2 h.1; omega), if_pos g3]
 have bw0 : i = 0 → backw (l.take i) X = false := fun h => by subst h; rfl
 have bw : 0 < i → ∃ y, IntAt m1 p (0 + ((i : Int) - 1) * 8 + 1) y ∧ backw (l.take i) X = decide (at' < y) := fun h => by
  have hy : l[i - 1]? = some (l[i - 1]'(by omega)) := List.getElem?_eq_getElem (by omega)
  have hc := (hl.sub hm1).2 (i - 1) _ hy
  refine ⟨(l[i - 1]'(by omega)).at_, ?_, ?_⟩
  ·have := hc.2.1
   rw [show ((i - 1 : Nat) : Int) * 8 + 1 = 0 + ((i : Int) - 1) * 8 + 1 by omega] at this
   exact this
  ·rcases backw_take (l := l) (i := i) (x := X) with h1 | h1
   ·rw [h1, hy]; simp [h, hat]
   ·omega
 refine ⟨fun h => stop m1 hm1 e ⟨he1, he2⟩ (by unfold evErr; rw [if_pos (by rw [← hE]; exact h), hE]), fun he0 => ⟨fun hk6 => ⟨fun hjj => stop m1 hm1 3 (by constructor <;> decide) (by unfold evErr; rw [if_neg (by rw [← hE, he0]; simp), if_pos ⟨by rw [hk]; exact hk6, by rw [hjob]; exact hjj⟩]), fun hjj => ⟨fun hi0 => ?_, fun hi0 => ?_⟩⟩, fun hk6 => ⟨fun hi0 => ?_, fun hi0 => ?_⟩⟩⟩
 ·obtain ⟨y, hy1, hy2⟩ := bw (by omega)
  refine ⟨by omega, hp, hy1.has, y, hy1.1, hy1.2, fun hlt => stop m1 hm1 8 k8 (toBack he0 (fun _ => hjj) (by rw [hy2]; simp [hlt])), fun hle => ?_⟩
  have hr := toRun he0 (fun _ => hjj) (by rw [hy2]; simp; omega)
  refine ⟨fun hk1 => ?_, fun hk1 => ⟨fun hk2 => ?_, fun hk2 => ⟨fun hk3 => ?_, fun hk3 => ?_⟩⟩⟩
  ·refine ⟨fun a y => (∃ j : Nat, y = j ∧ j ≤ i ∧ a = lastR (l.take j), ((i : Int) - y).toNat), ⟨by constructor <;> decide, by constructor <;> decide, 0, rfl, by omega, rfl⟩, ?_⟩
   rintro a ka1 ka2 y ky1 ky2 ⟨j, rfl, hj, rfl⟩
   refine ⟨fun hlt2 => ?_, fun hge2 => ?_⟩
   ·obtain ⟨y, hy, _, hey, _⟩ := (hl.sub hm1).at_ (i := (j : Int)) (by omega) (by omega)
    rw [Int.toNat_natCast] at hy
    have hjl : j < l.length := by omega
    have hyt : l.take (j + 1) = l.take j ++ [y] := by
     rw [← List.take_append_getElem hjl]
     rw [List.getElem?_eq_getElem hjl] at hy
     rw [Option.some.inj hy]
    refine ⟨by omega, by omega, hp, hey.1.has, y.kind, hey.1.1, hey.1.2, fun h => ⟨by omega, by omega, hp, hey.2.2.2.2.2.1.has, y.run, hey.2.2.2.2.2.1.1, hey.2.2.2.2.2.1.2, by omega, hey.2.2.2.2.2.1.2, k64 (by omega) (by omega), ⟨j + 1, by omega, by omega, by rw [hyt, last_snoc, if_pos h]⟩, by first | omega | (simp only; omega)⟩,
     fun h => ⟨by omega, ⟨ka1, ka2⟩, k64 (by omega) (by omega), ⟨j + 1, by omega, by omega, by rw [hyt, last_snoc, if_neg h]⟩, by first | omega | (simp only; omega)⟩⟩
   ·have hji : j = i := by omega
    subst hji
    exact ⟨by omega, fun h => stop m1 hm1 8 k8 (by rw [hr]; unfold evRun; rw [hk, if_pos hk1, hrun, if_pos h]), fun h => stop m1 hm1 0 k0 (by rw [hr]; unfold evRun; rw [hk, if_pos hk1, hrun, if_neg (by omega)])⟩
  ·have hend : isEnd X = true := by simp [isEnd, hk, hk2]
   refine ⟨⟨hn, hc⟩, ⟨l, by rw [map_add0]; exact hl.sub hm1, by omega, by omega, hb⟩, fun m2 hm2 p1 n1 c1 g1 g2 hpost => ?_⟩
   obtain ⟨hu, hul⟩ := hpost l (by rw [map_add0]; exact hl.sub (hm1.trans hm2))
   rw [Int.toNat_natCast] at hu
   have hulen := hu.1
   have eR : evErr jobs (l.take i) X = if (und (l.take i)).any (evMatch X) = true then 0 else 8 := by
    rw [hr]; unfold evRun; rw [hk, if_neg hk1, if_pos hend]
   generalize und (l.take i) = U at hu hulen eR
   refine ⟨fun a y => (∃ j : Nat, y = j ∧ j ≤ n1 ∧ (U.take j).any (evMatch X) = false, ((n1 : Int) - y).toNat), ⟨by constructor <;> decide, by constructor <;> decide, 0, rfl, by omega, rfl⟩, ?_⟩
   rintro a ka1 ka2 y ky1 ky2 ⟨j, rfl, hj, hno⟩
   refine ⟨fun hlt2 => ?_, fun hge2 => stop m2 (hm1.trans hm2) 8 k8 (by rw [eR, if_neg]; rw [List.take_of_length_le (by omega)] at hno; rw [hno]; simp)⟩
   obtain ⟨u, hu1, hup, hue, _⟩ := hu.at_ (i := (j : Int)) (by omega) hlt2
   rw [Int.toNat_natCast] at hu1
   have hjl : j < U.length := by omega
   have hut : U.take (j + 1) = U.take j ++ [u] := by
    rw [← List.take_append_getElem hjl]
    rw [List.getElem?_eq_getElem hjl] at hu1
    rw [Option.some.inj hu1]
   have nomatch_ : evMatch X u = false → (j : Int) + 1 ≤ 9223372036854775807 ∧ ((K.i64 a) ∧ (IntKind.i64.min ≤ ((j : Int) + 1) ∧ ((j : Int) + 1) ≤ IntKind.i64.max) ∧ ((∃ j' : Nat, (j : Int) + 1 = j' ∧ j' ≤ n1 ∧ (U.take j').any (evMatch X) = false) ∧ ((n1 : Int) - ((j : Int) + 1)).toNat < ((n1 : Int) - (j : Int)).toNat)) := fun h =>
    ⟨by omega, ⟨ka1, ka2⟩, k64 (by omega) (by omega), ⟨j + 1, by omega, by omega, by rw [hut, List.any_append, hno]; simp [h]⟩, by omega⟩
   refine ⟨by omega, hup, hue.2.2.2.2.2.1.has, u.run, hue.2.2.2.2.2.1.1, hue.2.2.2.2.2.1.2, fun e1 => ⟨by omega, hup, hue.2.2.1.has, u.job, hue.2.2.1.1, hue.2.2.1.2, fun e2 => ⟨by omega, hup, hue.2.2.2.1.has, u.due, hue.2.2.2.1.1, hue.2.2.2.1.2, fun e3 => ⟨by omega, hup, hue.2.2.2.2.1.has, u.attempt, hue.2.2.2.2.1.1, hue.2.2.2.2.1.2, fun e4 => stop m2 (hm1.trans hm2) 0 k0 ?_,
    fun e4 => nomatch_ (by simp [evMatch, hatt, e4])⟩, fun e3 => nomatch_ (by simp [evMatch, hdue, e3])⟩, fun e2 => nomatch_ (by simp [evMatch, hjob, e2])⟩, fun e1 => nomatch_ (by simp [evMatch, hrun, e1])⟩
   rw [eR, if_pos]
   rw [List.any_eq_true]
   exact ⟨u, List.mem_of_getElem? hu1, by simp [evMatch, hrun, hjob, hdue, hatt, e1, e2, e3, e4]⟩
  ·have hend : isEnd X = true := by simp [isEnd, hk, hk3]
   refine ⟨⟨hn, hc⟩, ⟨l, by rw [map_add0]; exact hl.sub hm1, by omega, by omega, hb⟩, fun m2 hm2 p1 n1 c1 g1 g2 hpost => ?_⟩
   obtain ⟨hu, hul⟩ := hpost l (by rw [map_add0]; exact hl.sub (hm1.trans hm2))
   rw [Int.toNat_natCast] at hu
   have hulen := hu.1
   have eR : evErr jobs (l.take i) X = if (und (l.take i)).any (evMatch X) = true then 0 else 8 := by
    rw [hr]; unfold evRun; rw [hk, if_neg hk1, if_pos hend]
   generalize und (l.take i) = U at hu hulen eR
   refine ⟨fun a y => (∃ j : Nat, y = j ∧ j ≤ n1 ∧ (U.take j).any (evMatch X) = false, ((n1 : Int) - y).toNat), ⟨by constructor <;> decide, by constructor <;> decide, 0, rfl, by omega, rfl⟩, ?_⟩
   rintro a ka1 ka2 y ky1 ky2 ⟨j, rfl, hj, hno⟩
   refine ⟨fun hlt2 => ?_, fun hge2 => stop m2 (hm1.trans hm2) 8 k8 (by rw [eR, if_neg]; rw [List.take_of_length_le (by omega)] at hno; rw [hno]; simp)⟩
   obtain ⟨u, hu1, hup, hue, _⟩ := hu.at_ (i := (j : Int)) (by omega) hlt2
   rw [Int.toNat_natCast] at hu1
   have hjl : j < U.length := by omega
   have hut : U.take (j + 1) = U.take j ++ [u] := by
    rw [← List.take_append_getElem hjl]
    rw [List.getElem?_eq_getElem hjl] at hu1
    rw [Option.some.inj hu1]
   have nomatch_ : evMatch X u = false → (j : Int) + 1 ≤ 9223372036854775807 ∧ ((K.i64 a) ∧ (IntKind.i64.min ≤ ((j : Int) + 1) ∧ ((j : Int) + 1) ≤ IntKind.i64.max) ∧ ((∃ j' : Nat, (j : Int) + 1 = j' ∧ j' ≤ n1 ∧ (U.take j').any (evMatch X) = false) ∧ ((n1 : Int) - ((j : Int) + 1)).toNat < ((n1 : Int) - (j : Int)).toNat)) := fun h =>
    ⟨by omega, ⟨ka1, ka2⟩, k64 (by omega) (by omega), ⟨j + 1, by omega, by omega, by rw [hut, List.any_append, hno]; simp [h]⟩, by omega⟩
   refine ⟨by omega, hup, hue.2.2.2.2.2.1.has, u.run, hue.2.2.2.2.2.1.1, hue.2.2.2.2.2.1.2, fun e1 => ⟨by omega, hup, hue.2.2.1.has, u.job, hue.2.2.1.1, hue.2.2.1.2, fun e2 => ⟨by omega, hup, hue.2.2.2.1.has, u.due, hue.2.2.2.1.1, hue.2.2.2.1.2, fun e3 => ⟨by omega, hup, hue.2.2.2.2.1.has, u.attempt, hue.2.2.2.2.1.1, hue.2.2.2.2.1.2, fun e4 => stop m2 (hm1.trans hm2) 0 k0 ?_,
    fun e4 => nomatch_ (by simp [evMatch, hatt, e4])⟩, fun e3 => nomatch_ (by simp [evMatch, hdue, e3])⟩, fun e2 => nomatch_ (by simp [evMatch, hjob, e2])⟩, fun e1 => nomatch_ (by simp [evMatch, hrun, e1])⟩
   rw [eR, if_pos]
   rw [List.any_eq_true]
   exact ⟨u, List.mem_of_getElem? hu1, by simp [evMatch, hrun, hjob, hdue, hatt, e1, e2, e3, e4]⟩
  ·exact stop m1 hm1 0 k0 (none_ hk1 hk2 hk3 hr)
 ·have hr := toRun he0 (fun _ => hjj) (bw0 (by omega))
  refine ⟨fun hk1 => ?_, fun hk1 => ⟨fun hk2 => ?_, fun hk2 => ⟨fun hk3 => ?_, fun hk3 => ?_⟩⟩⟩
  ·refine ⟨fun a y => (∃ j : Nat, y = j ∧ j ≤ i ∧ a = lastR (l.take j), ((i : Int) - y).toNat), ⟨by constructor <;> decide, by constructor <;> decide, 0, rfl, by omega, rfl⟩, ?_⟩
   rintro a ka1 ka2 y ky1 ky2 ⟨j, rfl, hj, rfl⟩
   refine ⟨fun hlt2 => ?_, fun hge2 => ?_⟩
   ·obtain ⟨y, hy, _, hey, _⟩ := (hl.sub hm1).at_ (i := (j : Int)) (by omega) (by omega)
    rw [Int.toNat_natCast] at hy
    have hjl : j < l.length := by omega
    have hyt : l.take (j + 1) = l.take j ++ [y] := by
     rw [← List.take_append_getElem hjl]
     rw [List.getElem?_eq_getElem hjl] at hy
     rw [Option.some.inj hy]
    refine ⟨by omega, by omega, hp, hey.1.has, y.kind, hey.1.1, hey.1.2, fun h => ⟨by omega, by omega, hp, hey.2.2.2.2.2.1.has, y.run, hey.2.2.2.2.2.1.1, hey.2.2.2.2.2.1.2, by omega, hey.2.2.2.2.2.1.2, k64 (by omega) (by omega), ⟨j + 1, by omega, by omega, by rw [hyt, last_snoc, if_pos h]⟩, by first | omega | (simp only; omega)⟩,
     fun h => ⟨by omega, ⟨ka1, ka2⟩, k64 (by omega) (by omega), ⟨j + 1, by omega, by omega, by rw [hyt, last_snoc, if_neg h]⟩, by first | omega | (simp only; omega)⟩⟩
   ·have hji : j = i := by omega
    subst hji
    exact ⟨by omega, fun h => stop m1 hm1 8 k8 (by rw [hr]; unfold evRun; rw [hk, if_pos hk1, hrun, if_pos h]), fun h => stop m1 hm1 0 k0 (by rw [hr]; unfold evRun; rw [hk, if_pos hk1, hrun, if_neg (by omega)])⟩
  ·have hend : isEnd X = true := by simp [isEnd, hk, hk2]
   refine ⟨⟨hn, hc⟩, ⟨l, by rw [map_add0]; exact hl.sub hm1, by omega, by omega, hb⟩, fun m2 hm2 p1 n1 c1 g1 g2 hpost => ?_⟩
   obtain ⟨hu, hul⟩ := hpost l (by rw [map_add0]; exact hl.sub (hm1.trans hm2))
   rw [Int.toNat_natCast] at hu
   have hulen := hu.1
   have eR : evErr jobs (l.take i) X = if (und (l.take i)).any (evMatch X) = true then 0 else 8 := by
    rw [hr]; unfold evRun; rw [hk, if_neg hk1, if_pos hend]
   generalize und (l.take i) = U at hu hulen eR
   refine ⟨fun a y => (∃ j : Nat, y = j ∧ j ≤ n1 ∧ (U.take j).any (evMatch X) = false, ((n1 : Int) - y).toNat), ⟨by constructor <;> decide, by constructor <;> decide, 0, rfl, by omega, rfl⟩, ?_⟩
   rintro a ka1 ka2 y ky1 ky2 ⟨j, rfl, hj, hno⟩
   refine ⟨fun hlt2 => ?_, fun hge2 => stop m2 (hm1.trans hm2) 8 k8 (by rw [eR, if_neg]; rw [List.take_of_length_le (by omega)] at hno; rw [hno]; simp)⟩
   obtain ⟨u, hu1, hup, hue, _⟩ := hu.at_ (i := (j : Int)) (by omega) hlt2
   rw [Int.toNat_natCast] at hu1
   have hjl : j < U.length := by omega
   have hut : U.take (j + 1) = U.take j ++ [u] := by
    rw [← List.take_append_getElem hjl]
    rw [List.getElem?_eq_getElem hjl] at hu1
    rw [Option.some.inj hu1]
   have nomatch_ : evMatch X u = false → (j : Int) + 1 ≤ 9223372036854775807 ∧ ((K.i64 a) ∧ (IntKind.i64.min ≤ ((j : Int) + 1) ∧ ((j : Int) + 1) ≤ IntKind.i64.max) ∧ ((∃ j' : Nat, (j : Int) + 1 = j' ∧ j' ≤ n1 ∧ (U.take j').any (evMatch X) = false) ∧ ((n1 : Int) - ((j : Int) + 1)).toNat < ((n1 : Int) - (j : Int)).toNat)) := fun h =>
    ⟨by omega, ⟨ka1, ka2⟩, k64 (by omega) (by omega), ⟨j + 1, by omega, by omega, by rw [hut, List.any_append, hno]; simp [h]⟩, by omega⟩
   refine ⟨by omega, hup, hue.2.2.2.2.2.1.has, u.run, hue.2.2.2.2.2.1.1, hue.2.2.2.2.2.1.2, fun e1 => ⟨by omega, hup, hue.2.2.1.has, u.job, hue.2.2.1.1, hue.2.2.1.2, fun e2 => ⟨by omega, hup, hue.2.2.2.1.has, u.due, hue.2.2.2.1.1, hue.2.2.2.1.2, fun e3 => ⟨by omega, hup, hue.2.2.2.2.1.has, u.attempt, hue.2.2.2.2.1.1, hue.2.2.2.2.1.2, fun e4 => stop m2 (hm1.trans hm2) 0 k0 ?_,
    fun e4 => nomatch_ (by simp [evMatch, hatt, e4])⟩, fun e3 => nomatch_ (by simp [evMatch, hdue, e3])⟩, fun e2 => nomatch_ (by simp [evMatch, hjob, e2])⟩, fun e1 => nomatch_ (by simp [evMatch, hrun, e1])⟩
   rw [eR, if_pos]
   rw [List.any_eq_true]
   exact ⟨u, List.mem_of_getElem? hu1, by simp [evMatch, hrun, hjob, hdue, hatt, e1, e2, e3, e4]⟩
  ·have hend : isEnd X = true := by simp [isEnd, hk, hk3]
   refine ⟨⟨hn, hc⟩, ⟨l, by rw [map_add0]; exact hl.sub hm1, by omega, by omega, hb⟩, fun m2 hm2 p1 n1 c1 g1 g2 hpost => ?_⟩
   obtain ⟨hu, hul⟩ := hpost l (by rw [map_add0]; exact hl.sub (hm1.trans hm2))
   rw [Int.toNat_natCast] at hu
   have hulen := hu.1
   have eR : evErr jobs (l.take i) X = if (und (l.take i)).any (evMatch X) = true then 0 else 8 := by
    rw [hr]; unfold evRun; rw [hk, if_neg hk1, if_pos hend]
   generalize und (l.take i) = U at hu hulen eR
   refine ⟨fun a y => (∃ j : Nat, y = j ∧ j ≤ n1 ∧ (U.take j).any (evMatch X) = false, ((n1 : Int) - y).toNat), ⟨by constructor <;> decide, by constructor <;> decide, 0, rfl, by omega, rfl⟩, ?_⟩
   rintro a ka1 ka2 y ky1 ky2 ⟨j, rfl, hj, hno⟩
   refine ⟨fun hlt2 => ?_, fun hge2 => stop m2 (hm1.trans hm2) 8 k8 (by rw [eR, if_neg]; rw [List.take_of_length_le (by omega)] at hno; rw [hno]; simp)⟩
   obtain ⟨u, hu1, hup, hue, _⟩ := hu.at_ (i := (j : Int)) (by omega) hlt2
   rw [Int.toNat_natCast] at hu1
   have hjl : j < U.length := by omega
   have hut : U.take (j + 1) = U.take j ++ [u] := by
    rw [← List.take_append_getElem hjl]
    rw [List.getElem?_eq_getElem hjl] at hu1
    rw [Option.some.inj hu1]
   have nomatch_ : evMatch X u = false → (j : Int) + 1 ≤ 9223372036854775807 ∧ ((K.i64 a) ∧ (IntKind.i64.min ≤ ((j : Int) + 1) ∧ ((j : Int) + 1) ≤ IntKind.i64.max) ∧ ((∃ j' : Nat, (j : Int) + 1 = j' ∧ j' ≤ n1 ∧ (U.take j').any (evMatch X) = false) ∧ ((n1 : Int) - ((j : Int) + 1)).toNat < ((n1 : Int) - (j : Int)).toNat)) := fun h =>
    ⟨by omega, ⟨ka1, ka2⟩, k64 (by omega) (by omega), ⟨j + 1, by omega, by omega, by rw [hut, List.any_append, hno]; simp [h]⟩, by omega⟩
   refine ⟨by omega, hup, hue.2.2.2.2.2.1.has, u.run, hue.2.2.2.2.2.1.1, hue.2.2.2.2.2.1.2, fun e1 => ⟨by omega, hup, hue.2.2.1.has, u.job, hue.2.2.1.1, hue.2.2.1.2, fun e2 => ⟨by omega, hup, hue.2.2.2.1.has, u.due, hue.2.2.2.1.1, hue.2.2.2.1.2, fun e3 => ⟨by omega, hup, hue.2.2.2.2.1.has, u.attempt, hue.2.2.2.2.1.1, hue.2.2.2.2.1.2, fun e4 => stop m2 (hm1.trans hm2) 0 k0 ?_,
    fun e4 => nomatch_ (by simp [evMatch, hatt, e4])⟩, fun e3 => nomatch_ (by simp [evMatch, hdue, e3])⟩, fun e2 => nomatch_ (by simp [evMatch, hjob, e2])⟩, fun e1 => nomatch_ (by simp [evMatch, hrun, e1])⟩
   rw [eR, if_pos]
   rw [List.any_eq_true]
   exact ⟨u, List.mem_of_getElem? hu1, by simp [evMatch, hrun, hjob, hdue, hatt, e1, e2, e3, e4]⟩
  ·exact stop m1 hm1 0 k0 (none_ hk1 hk2 hk3 hr)
 ·obtain ⟨y, hy1, hy2⟩ := bw (by omega)
  refine ⟨by omega, hp, hy1.has, y, hy1.1, hy1.2, fun hlt => stop m1 hm1 8 k8 (toBack he0 (fun h => (h hk6).elim) (by rw [hy2]; simp [hlt])), fun hle => ?_⟩
  have hr := toRun he0 (fun h => (h hk6).elim) (by rw [hy2]; simp; omega)
  exact stop m1 hm1 0 k0 (none_ (by omega) (by omega) (by omega) hr)
 ·have hr := toRun he0 (fun h => (h hk6).elim) (bw0 (by omega))
  exact stop m1 hm1 0 k0 (none_ (by omega) (by omega) (by omega) hr)
theorem rPos_ok : SpOk Tryz.prog rPos :=
 con_ok (sps_of [rUnd, refCheck] ⟨rUnd_ok, ⟨refCheck_ok, trivial⟩⟩ rfl) (tab_ok _ [⟨(123, 12), [], [], [], []⟩, ⟨(123, 21), [], [], [], []⟩]) 1000 rPos _ rfl rfl (Eq.mp (show rPos_VC = _ by kernel_rfl) rPos_vc)
def rtChk_pre (p : Option Addr) (n c : Nat) (j : Int) (m : Mem) : Prop := ∃ l, EvsAt m p n l ∧ n ≤ 1000000
def rtChk_post (p : Option Addr) (n c : Nat) (j : Int) (m : Mem) (i e : Int) : Prop := ∀ l, EvsAt m p n l → (i, e) = trcE j l
def rtChk : Sp := { args := [.sl, .i .i64], grp := [none, none], res := [.i .i64, .i .i64], rgrp := [none, none], fn := 76, spec := fun a0 a1 a2 a3 => (rtChk_pre a0 a1 a2 a3, rtChk_post a0 a1 a2 a3) }
def rtChk_VC : Prop := ∀ m : Mem, ∀ (p0 : Option Addr) (n0 c0 : Nat), n0 ≤ 9223372036854775807 → c0 ≤ 9223372036854775807 → ∀ x2 : Int, mi ≤ x2 → x2 ≤ ma → rtChk_pre p0 n0 c0 x2 m →
 ((x2 < 0 →
 ((K.i64 0) ∧ (K.i64 2) ∧ rtChk_post p0 n0 c0 x2 m 0 2)) ∧
 (0 ≤ x2 →
 ((64 < x2 →
 ((K.i64 0) ∧ (K.i64 2) ∧ rtChk_post p0 n0 c0 x2 m 0 2)) ∧
 (x2 ≤ 64 →
 (∃ F1 : Int → Int → Int → Prop × Nat, ((K.i64 0) ∧ (K.i64 0) ∧ (K.i64 0) ∧ (F1 0 0 0).1) ∧
 ∀ x3 : Int, mi ≤ x3 → x3 ≤ ma → ∀ x4 : Int, mi ≤ x4 → x4 ≤ ma → ∀ x5 : Int, mi ≤ x5 → x5 ≤ ma → (F1 x3 x4 x5).1 →
 ((x5 < (n0 : Int) →
 ((n0 ≤ 9223372036854775807 ∧ c0 ≤ 9223372036854775807) ∧ rPos_pre (p0.map fun p => p.add 0) n0 c0 x5 x2 m ∧ ∀ m2 : Mem, MemSub m m2 → ∀ x6 : Int, mi ≤ x6 → x6 ≤ ma → rPos_post (p0.map fun p => p.add 0) n0 c0 x5 x2 m2 x6 →
 ((x6 ≠ 0 →
 ((K.i64 x5) ∧ (K.i64 x6) ∧ rtChk_post p0 n0 c0 x2 m2 x5 x6)) ∧
 (x6 = 0 →
 ((x5 + 1) ≤ 9223372036854775807 ∧ ((K.i64 x3) ∧ (K.i64 x4) ∧ (mi ≤ (x5 + 1) ∧ (x5 + 1) ≤ ma) ∧ ((F1 x3 x4 (x5 + 1)).1 ∧ (F1 x3 x4 (x5 + 1)).2 < (F1 x3 x4 x5).2))))))) ∧
 ((n0 : Int) ≤ x5 →
 ((K.i64 0) ∧ (K.i64 0) ∧ rtChk_post p0 n0 c0 x2 m 0 0))))))))
theorem rtChk_vc : rtChk_VC := by
 intro m p n c hn hc jobs hj1 hj2 ⟨l, hl, hb⟩
 have hlen := hl.1
 have ps : ∀ (m' : Mem) (a b : Int), MemSub m m' → (a, b) = trcE jobs l → rtChk_post p n c jobs m' a b := fun m' a b h e l' hl' => by
  rw [← hl.uniq h hl']; exact e
 refine ⟨fun h => ⟨by constructor <;> decide, by constructor <;> decide, ps m _ _ (memSub_refl m) (by rw [trcE, if_pos (by omega)])⟩, fun h0 => ⟨fun h => ⟨by constructor <;> decide, by constructor <;> decide, ps m _ _ (memSub_refl m) (by rw [trcE, if_pos (by omega)])⟩, fun h64 => ?_⟩⟩
 have eT : trcE jobs l = trcGo jobs [] l := by rw [trcE, if_neg (by omega)]
 refine ⟨fun a b y => (∃ i : Nat, y = i ∧ i ≤ l.length ∧ trcGo jobs [] l = trcGo jobs (l.take i) (l.drop i) ∧ As.Trace (l.take i), ((n : Int) - y).toNat), ⟨by constructor <;> decide, by constructor <;> decide, by constructor <;> decide, 0, rfl, by omega, rfl, As.Trace.nil⟩, ?_⟩
 rintro x3 a3 b3 x4 a4 b4 x5 a5 b5 ⟨i, rfl, hi, hgo, htr⟩
 refine ⟨fun hlt => ?_, fun hge => ?_⟩
 ·obtain ⟨x, hx, hp, hev, hhas⟩ := hl.at_ (i := (i : Int)) (by omega) hlt
  rw [Int.toNat_natCast] at hx
  have hil : i < l.length := by omega
  have hdrop : l.drop i = x :: l.drop (i + 1) := by
   rw [List.drop_eq_getElem_cons hil]
   rw [List.getElem?_eq_getElem hil] at hx
   rw [Option.some.inj hx]
  have htake : l.take (i + 1) = l.take i ++ [x] := by
   rw [← List.take_append_getElem hil]
   rw [List.getElem?_eq_getElem hil] at hx
   rw [Option.some.inj hx]
  have hpl : ((l.take i).length : Int) = i := by rw [List.length_take]; omega
  refine ⟨⟨hn, hc⟩, ⟨l, by rw [map_add0]; exact hl, by omega, hlt, hb, by rw [Int.toNat_natCast]; exact htr⟩, fun m2 hm2 e he1 he2 hpost => ?_⟩
  have hE := hpost l x (by rw [map_add0]; exact hl.sub hm2) (by rw [Int.toNat_natCast]; exact hx)
  rw [Int.toNat_natCast] at hE
  refine ⟨fun h => ⟨k64 (by omega) (by omega), ⟨he1, he2⟩, ps m2 _ _ hm2 ?_⟩, fun h => ⟨by omega, ⟨a3, b3⟩, ⟨a4, b4⟩, k64 (by omega) (by omega), ⟨i + 1, by omega, by omega, ?_, ?_⟩, by first | omega | (simp only; omega)⟩⟩
  ·rw [eT, hgo, hdrop, trcGo, ← hE, if_pos h, hpl]
  ·rw [hgo, hdrop, trcGo, ← hE, if_neg (by simp [h]), htake]
  ·rw [htake]; exact As.Trace.snoc htr (poss_of (by rw [← hE]; exact h))
 ·refine ⟨by constructor <;> decide, by constructor <;> decide, ps m _ _ (memSub_refl m) ?_⟩
  rw [eT, hgo, List.drop_eq_nil_of_le (by omega)]
  rfl
theorem rtChk_ok : SpOk Tryz.prog rtChk :=
 con_ok (sps_of [rPos] ⟨rPos_ok, trivial⟩ rfl) (tab_ok _ [⟨(28, 4), [], [], [], []⟩]) 1000 rtChk _ rfl rfl (Eq.mp (show rtChk_VC = _ by kernel_rfl) rtChk_vc)
end Go.Proofs.YtmpbddmbpeoehaaGreatDoor.Vc
namespace Go.Proofs.YtmpbddmbpeoehaaGreatDoor.Vc
def okN (n : Nat) : Bool := (decide (97 ≤ n) && decide (n ≤ 122)) || (decide (65 ≤ n) && decide (n ≤ 90)) || (decide (48 ≤ n) && decide (n ≤ 57)) || decide (n = 45) || decide (n = 95)
def okC (c : UInt8) : Bool := okN c.toNat
def nameB (s : List UInt8) : Bool := decide (1 ≤ s.length) && decide (s.length ≤ 24) && s.all okC
def orV (n : Nat) : Int := arithV BinOp.or IntKind.u8 (n : Int) 32
theorem or_all : (List.range 256).all (fun n => decide (0 ≤ orV n) && decide (orV n ≤ 255) && ((decide (97 ≤ orV n) && decide (orV n ≤ 122)) == ((decide (97 ≤ n) && decide (n ≤ 122)) || (decide (65 ≤ n) && decide (n ≤ 90))))) = true := by kernel_rfl
theorem or_at {n : Nat} (h : n < 256) : (0 ≤ orV n ∧ orV n ≤ 255) ∧ ((97 ≤ orV n ∧ orV n ≤ 122) ↔ ((97 ≤ n ∧ n ≤ 122) ∨ (65 ≤ n ∧ n ≤ 90))) := by
 have := List.all_eq_true.1 or_all n (by simp [h])
 simp only [Bool.and_eq_true, decide_eq_true_eq, beq_iff_eq] at this
 refine ⟨this.1, ?_⟩
 have h2 := this.2
 rw [Bool.eq_iff_iff] at h2
 simp only [Bool.and_eq_true, Bool.or_eq_true, decide_eq_true_eq] at h2
 exact h2
def lNam_pre (s : List UInt8) (m : Mem) : Prop := s.length ≤ 9223372036854775807
def lNam_post (s : List UInt8) (m : Mem) (r : Bool) : Prop := r = nameB s
def lNam : Sp := { args := [.s], grp := [none], res := [.b], rgrp := [none], fn := 141, spec := fun a0 => (lNam_pre a0, lNam_post a0) }
def lNam_VC : Prop := ∀ m : Mem, ∀ s0 : List UInt8, lNam_pre s0 m →
 (∀ b0 : Bool, b0 = decide (s0 = ([] : List UInt8)) → ((b0 = true →
 (lNam_post s0 m false)) ∧
 (b0 = false →
 (∀ x0 : Int, x0 = ((s0.length : Nat) : Int) → 0 ≤ x0 ∧ x0 ≤ 9223372036854775807 ∧ ((24 < x0 →
 (lNam_post s0 m false)) ∧
 (x0 ≤ 24 →
 (∀ x1 : Int, x1 = ((s0.length : Nat) : Int) → 0 ≤ x1 ∧ x1 ≤ 9223372036854775807 ∧ (∃ F1 : Bool → Int → Prop × Nat, ((K.i64 0) ∧ (F1 false 0).1) ∧
 ∀ b1 : Bool, ∀ x2 : Int, mi ≤ x2 → x2 ≤ ma → (F1 b1 x2).1 →
 ((x2 < x1 →
 ((0 ≤ x2 ∧ x2 < ((s0.length : Nat) : Int)) ∧ ∀ x3 : Int, x3 = ((((s0).getD (x2).toNat 0).toNat : Nat) : Int) → 0 ≤ x3 → x3 ≤ 255 → (arithP BinOp.or 32 ∧ ∀ x4 : Int, x4 = arithV BinOp.or IntKind.u8 x3 32 → (K.u8 x4) ∧ ((97 ≤ x4 →
 (arithP BinOp.or 32 ∧ ∀ x5 : Int, x5 = arithV BinOp.or IntKind.u8 x3 32 → (K.u8 x5) ∧ ((122 < x5 →
 ((x3 < 48 →
 ((x3 ≠ 45 →
 (lNam_post s0 m false)) ∧
 (x3 = 45 →
 ((x2 + 1) ≤ 9223372036854775807 ∧ ((mi ≤ (x2 + 1) ∧ (x2 + 1) ≤ ma) ∧ ((F1 b1 (x2 + 1)).1 ∧ (F1 b1 (x2 + 1)).2 < (F1 b1 x2).2)))))) ∧
 (48 ≤ x3 →
 ((57 < x3 →
 ((x3 ≠ 95 →
 (lNam_post s0 m false)) ∧
 (x3 = 95 →
 ((x2 + 1) ≤ 9223372036854775807 ∧ ((mi ≤ (x2 + 1) ∧ (x2 + 1) ≤ ma) ∧ ((F1 b1 (x2 + 1)).1 ∧ (F1 b1 (x2 + 1)).2 < (F1 b1 x2).2)))))) ∧
 (x3 ≤ 57 →
 ((x2 + 1) ≤ 9223372036854775807 ∧ ((mi ≤ (x2 + 1) ∧ (x2 + 1) ≤ ma) ∧ ((F1 b1 (x2 + 1)).1 ∧ (F1 b1 (x2 + 1)).2 < (F1 b1 x2).2)))))))) ∧
 (x5 ≤ 122 →
 ((x2 + 1) ≤ 9223372036854775807 ∧ ((mi ≤ (x2 + 1) ∧ (x2 + 1) ≤ ma) ∧ ((F1 b1 (x2 + 1)).1 ∧ (F1 b1 (x2 + 1)).2 < (F1 b1 x2).2))))))) ∧
 (x4 < 97 →
 ((x3 < 48 →
 ((x3 ≠ 45 →
 (lNam_post s0 m false)) ∧
 (x3 = 45 →
 ((x2 + 1) ≤ 9223372036854775807 ∧ ((mi ≤ (x2 + 1) ∧ (x2 + 1) ≤ ma) ∧ ((F1 b1 (x2 + 1)).1 ∧ (F1 b1 (x2 + 1)).2 < (F1 b1 x2).2)))))) ∧
 (48 ≤ x3 →
 ((57 < x3 →
 ((x3 ≠ 95 →
 (lNam_post s0 m false)) ∧
 (x3 = 95 →
 ((x2 + 1) ≤ 9223372036854775807 ∧ ((mi ≤ (x2 + 1) ∧ (x2 + 1) ≤ ma) ∧ ((F1 b1 (x2 + 1)).1 ∧ (F1 b1 (x2 + 1)).2 < (F1 b1 x2).2)))))) ∧
 (x3 ≤ 57 →
 ((x2 + 1) ≤ 9223372036854775807 ∧ ((mi ≤ (x2 + 1) ∧ (x2 + 1) ≤ ma) ∧ ((F1 b1 (x2 + 1)).1 ∧ (F1 b1 (x2 + 1)).2 < (F1 b1 x2).2)))))))))))) ∧
 (x1 ≤ x2 →
 (lNam_post s0 m true)))))))))))
theorem lNam_vc : lNam_VC := by
 intro m s hs
 have hs : s.length ≤ 9223372036854775807 := hs
 have again : ∀ (b : Bool) (i : Nat), i < s.length → (s.take i).all okC = true → okN (s.getD i 0).toNat = true → (i : Int) + 1 ≤ 9223372036854775807 ∧ ((IntKind.i64.min ≤ ((i : Int) + 1) ∧ ((i : Int) + 1) ≤ IntKind.i64.max) ∧ ((∃ i' : Nat, (i : Int) + 1 = i' ∧ i' ≤ s.length ∧ (s.take i').all okC = true) ∧ ((s.length : Int) - ((i : Int) + 1)).toNat < ((s.length : Int) - (i : Int)).toNat)) := fun b i hi hall ho => by
  refine ⟨by omega, k64 (by omega) (by omega), ⟨i + 1, by omega, by omega, ?_⟩, by omega⟩
  rw [← List.take_append_getElem hi, List.all_append, hall]
  have : s.getD i 0 = s[i] := by simp [List.getD, hi]
  rw [this] at ho
  simp [okC, ho]
 have stop : ∀ (m' : Mem) (i : Nat), i < s.length → okN (s.getD i 0).toNat = false → false = nameB s := fun m' i hi ho => by
  have : s.getD i 0 = s[i] := by simp [List.getD, hi]
  rw [this] at ho
  have : s.all okC = false := by
   rw [List.all_eq_false]
   exact ⟨s[i], List.getElem_mem hi, by simp [okC, ho]⟩
  simp [nameB, this]
 intro b0 hb0
 refine ⟨fun h => ?_, fun h x0 hx0 => ⟨by omega, by omega, fun h24 => ?_, fun h24 x1 hx1 => ⟨by omega, by omega, ?_⟩⟩⟩
 ·rw [hb0] at h
  have : s = [] := by simpa using h
  subst this; rfl
 ·show false = nameB s
  have : ¬ s.length ≤ 24 := by omega
  simp [nameB, this]
 ·have hne : s ≠ [] := by rw [hb0] at h; simpa using h
  have hpos : 1 ≤ s.length := by
   cases s with
   | nil => exact (hne rfl).elim
   | cons _ _ => simp
  refine ⟨fun b x => (∃ i : Nat, x = i ∧ i ≤ s.length ∧ (s.take i).all okC = true, ((s.length : Int) - x).toNat), ⟨by constructor <;> decide, 0, rfl, by omega, rfl⟩, ?_⟩
  rintro b1 x k1 k2 ⟨i, rfl, hi, hall⟩
  refine ⟨fun hlt => ⟨⟨by omega, by omega⟩, fun c hc hc0 hc1 => ?_⟩, fun hge => ?_⟩
  ·rw [Int.toNat_natCast] at hc
   have hil : i < s.length := by omega
   generalize hn : (s.getD i 0).toNat = n at hc
   have ha := again b1 i hil hall
   have hst := stop m i hil
   rw [hn] at ha hst
   subst hc
   have hn2 : n < 256 := by omega
   obtain ⟨ho1, ho2⟩ := or_at hn2
   have kk : K.u8 (orV n) := ho1
   refine ⟨trivial, fun v hv => ⟨by rw [hv]; exact kk, fun h97 => ⟨trivial, fun v2 hv2 => ⟨by rw [hv2]; exact kk, fun h122 => ?_, fun h122 => ha ?_⟩⟩, fun h97 => ?_⟩⟩
   ·have hv2' : v2 = orV n := hv2
    have hv' : v = orV n := hv
    refine ⟨fun q1 => ⟨fun q2 => hst ?_, fun q2 => ha ?_⟩, fun q1 => ⟨fun q2 => ⟨fun q3 => hst ?_, fun q3 => ha ?_⟩, fun q2 => ha ?_⟩⟩ <;> (simp [okN]; omega)
   ·have hv2' : v2 = orV n := hv2
    have hv' : v = orV n := hv
    simp [okN]; omega
   ·have hv' : v = orV n := hv
    refine ⟨fun q1 => ⟨fun q2 => hst ?_, fun q2 => ha ?_⟩, fun q1 => ⟨fun q2 => ⟨fun q3 => hst ?_, fun q3 => ha ?_⟩, fun q2 => ha ?_⟩⟩ <;> (simp [okN]; omega)
  ·show true = nameB s
   rw [List.take_of_length_le (by omega)] at hall
   have h1 : s.length ≤ 24 := by omega
   simp [nameB, hall, h1, hpos]
theorem lNam_ok : SpOk Tryz.prog lNam :=
 con_ok (sps_of [] trivial rfl) (tab_ok _ [⟨(48, 4), [], [], [], []⟩]) 1000 lNam _ rfl rfl (Eq.mp (show lNam_VC = _ by kernel_rfl) lNam_vc)
def rNam_pre (s : List UInt8) (m : Mem) : Prop := s.length ≤ 9223372036854775807
def rNam_post (s : List UInt8) (m : Mem) (r : Bool) : Prop := r = nameB s
def rNam : Sp := { args := [.s], grp := [none], res := [.b], rgrp := [none], fn := 70, spec := fun a0 => (rNam_pre a0, rNam_post a0) }
def rNam_VC : Prop := ∀ m : Mem, ∀ s0 : List UInt8, rNam_pre s0 m →
 (∀ x0 : Int, x0 = ((s0.length : Nat) : Int) → 0 ≤ x0 ∧ x0 ≤ 9223372036854775807 ∧ ((x0 < 1 →
 (rNam_post s0 m false)) ∧
 (1 ≤ x0 →
 (∀ x1 : Int, x1 = ((s0.length : Nat) : Int) → 0 ≤ x1 ∧ x1 ≤ 9223372036854775807 ∧ ((24 < x1 →
 (rNam_post s0 m false)) ∧
 (x1 ≤ 24 →
 (∃ F1 : Bool → Int → Prop × Nat, ((K.i64 0) ∧ (F1 false 0).1) ∧
 ∀ b0 : Bool, ∀ x2 : Int, mi ≤ x2 → x2 ≤ ma → (F1 b0 x2).1 →
 (∀ x3 : Int, x3 = ((s0.length : Nat) : Int) → 0 ≤ x3 ∧ x3 ≤ 9223372036854775807 ∧ ((x2 < x3 →
 ((0 ≤ x2 ∧ x2 < ((s0.length : Nat) : Int)) ∧ ∀ x4 : Int, x4 = ((((s0).getD (x2).toNat 0).toNat : Nat) : Int) → 0 ≤ x4 → x4 ≤ 255 → ((97 ≤ x4 →
 ((x4 ≤ 122 →
 ((x2 + 1) ≤ 9223372036854775807 ∧ ((mi ≤ (x2 + 1) ∧ (x2 + 1) ≤ ma) ∧ ((F1 b0 (x2 + 1)).1 ∧ (F1 b0 (x2 + 1)).2 < (F1 b0 x2).2)))) ∧
 (122 < x4 →
 (rNam_post s0 m false)))) ∧
 (x4 < 97 →
 ((65 ≤ x4 →
 ((x4 ≤ 90 →
 ((x2 + 1) ≤ 9223372036854775807 ∧ ((mi ≤ (x2 + 1) ∧ (x2 + 1) ≤ ma) ∧ ((F1 b0 (x2 + 1)).1 ∧ (F1 b0 (x2 + 1)).2 < (F1 b0 x2).2)))) ∧
 (90 < x4 →
 ((x4 ≠ 95 →
 (rNam_post s0 m false)) ∧
 (x4 = 95 →
 ((x2 + 1) ≤ 9223372036854775807 ∧ ((mi ≤ (x2 + 1) ∧ (x2 + 1) ≤ ma) ∧ ((F1 b0 (x2 + 1)).1 ∧ (F1 b0 (x2 + 1)).2 < (F1 b0 x2).2)))))))) ∧
 (x4 < 65 →
 ((48 ≤ x4 →
 ((x4 ≤ 57 →
 ((x2 + 1) ≤ 9223372036854775807 ∧ ((mi ≤ (x2 + 1) ∧ (x2 + 1) ≤ ma) ∧ ((F1 b0 (x2 + 1)).1 ∧ (F1 b0 (x2 + 1)).2 < (F1 b0 x2).2)))) ∧
 (57 < x4 →
 (rNam_post s0 m false)))) ∧
 (x4 < 48 →
 ((x4 = 45 →
 ((x2 + 1) ≤ 9223372036854775807 ∧ ((mi ≤ (x2 + 1) ∧ (x2 + 1) ≤ ma) ∧ ((F1 b0 (x2 + 1)).1 ∧ (F1 b0 (x2 + 1)).2 < (F1 b0 x2).2)))) ∧
 (x4 ≠ 45 →
 (rNam_post s0 m false))))))))))) ∧
 (x3 ≤ x2 →
 (rNam_post s0 m true)))))))))))
theorem rNam_vc : rNam_VC := by
 intro m s hs
 have hs : s.length ≤ 9223372036854775807 := hs
 have again : ∀ (b : Bool) (i : Nat), i < s.length → (s.take i).all okC = true → okN (s.getD i 0).toNat = true → (i : Int) + 1 ≤ 9223372036854775807 ∧ ((IntKind.i64.min ≤ ((i : Int) + 1) ∧ ((i : Int) + 1) ≤ IntKind.i64.max) ∧ ((∃ i' : Nat, (i : Int) + 1 = i' ∧ i' ≤ s.length ∧ (s.take i').all okC = true) ∧ ((s.length : Int) - ((i : Int) + 1)).toNat < ((s.length : Int) - (i : Int)).toNat)) := fun b i hi hall ho => by
  refine ⟨by omega, k64 (by omega) (by omega), ⟨i + 1, by omega, by omega, ?_⟩, by omega⟩
  rw [← List.take_append_getElem hi, List.all_append, hall]
  have : s.getD i 0 = s[i] := by simp [List.getD, hi]
  rw [this] at ho
  simp [okC, ho]
 have stop : ∀ (m' : Mem) (i : Nat), i < s.length → okN (s.getD i 0).toNat = false → false = nameB s := fun m' i hi ho => by
  have : s.getD i 0 = s[i] := by simp [List.getD, hi]
  rw [this] at ho
  have : s.all okC = false := by
   rw [List.all_eq_false]
   exact ⟨s[i], List.getElem_mem hi, by simp [okC, ho]⟩
  simp [nameB, this]
 refine fun x0 hx0 => ⟨by omega, by omega, fun h1 => ?_, fun h1 x1 hx1 => ⟨by omega, by omega, fun h24 => ?_, fun h24 => ?_⟩⟩
 ·show false = nameB s
  have : s.length = 0 := by omega
  simp [nameB, this]
 ·show false = nameB s
  have : ¬ s.length ≤ 24 := by omega
  simp [nameB, this]
 ·refine ⟨fun b x => (∃ i : Nat, x = i ∧ i ≤ s.length ∧ (s.take i).all okC = true, ((s.length : Int) - x).toNat), ⟨by constructor <;> decide, 0, rfl, by omega, rfl⟩, ?_⟩
  rintro b1 x k1 k2 ⟨i, rfl, hi, hall⟩ x3 hx3
  refine ⟨by omega, by omega, fun hlt => ⟨⟨by omega, by omega⟩, fun c hc hc0 hc1 => ?_⟩, fun hge => ?_⟩
  ·rw [Int.toNat_natCast] at hc
   have hil : i < s.length := by omega
   generalize hn : (s.getD i 0).toNat = n at hc
   have ha := again b1 i hil hall
   have hst := stop m i hil
   rw [hn] at ha hst
   subst hc
   refine ⟨fun q1 => ⟨fun q2 => ha ?_, fun q2 => hst ?_⟩, fun q1 => ⟨fun q2 => ⟨fun q3 => ha ?_, fun q3 => ⟨fun q4 => hst ?_, fun q4 => ha ?_⟩⟩, fun q2 => ⟨fun q3 => ⟨fun q4 => ha ?_, fun q4 => hst ?_⟩, fun q3 => ⟨fun q4 => ha ?_, fun q4 => hst ?_⟩⟩⟩⟩ <;> (simp [okN]; omega)
  ·show true = nameB s
   rw [List.take_of_length_le (by omega)] at hall
   have h1 : s.length ≤ 24 := by omega
   have h2 : 1 ≤ s.length := by omega
   simp [nameB, hall, h1, h2]
theorem rNam_ok : SpOk Tryz.prog rNam :=
 con_ok (sps_of [] trivial rfl) (tab_ok _ [⟨(53, 4), [], [], [], []⟩]) 1000 rNam _ rfl rfl (Eq.mp (show rNam_VC = _ by kernel_rfl) rNam_vc)
end Go.Proofs.YtmpbddmbpeoehaaGreatDoor.Vc
