/-
  Contracts, by their trees.
-/
import Derived.Test.YtmpbddmbpeoehaaGreatDoorWP
import Derived.Test.YtmpbddmbpeoehaaGreatDoorWEa
import Derived.Test.YtmpbddmbpeoehaaGreatDoorWH
set_option linter.unusedVariables false
set_option linter.unusedSimpArgs false
set_option maxRecDepth 20000
namespace Go.Proofs.YtmpbddmbpeoehaaGreatDoor.Vc
open As
def rFai_pre (p : Option Addr) (n c : Nat) (i : Int) (m : Mem) : Prop := (0 ≤ i ∧ i < n ∧ n ≤ 1000000) ∧ ∃ l, EvsAt m p n l ∧ ∀ x, l[i.toNat]? = some x → 1 ≤ x.attempt
def rFai_post (p : Option Addr) (n c : Nat) (i : Int) (m : Mem) (z : Int) : Prop := ∀ l x, EvsAt m p n l → l[i.toNat]? = some x →
 (z = -1 ∧ lastF (l.take i.toNat) x.job x.due (x.attempt - 1) = none) ∨ ∃ (k : Nat) (y : Ev), z = (k : Int) ∧ k < i.toNat ∧ l[k]? = some y ∧ lastF (l.take i.toNat) x.job x.due (x.attempt - 1) = some y.at_
def rFai : Sp := { args := [.sl, .i .i64], grp := [none, none], res := [.i .i64], rgrp := [none], fn := 41, spec := fun a0 a1 a2 a3 => (rFai_pre a0 a1 a2 a3, rFai_post a0 a1 a2 a3) }
def rFai_VC : Prop := ∀ m : Mem, ∀ (p0 : Option Addr) (n0 c0 : Nat), n0 ≤ 9223372036854775807 → c0 ≤ 9223372036854775807 → ∀ x2 : Int, mi ≤ x2 → x2 ≤ ma → rFai_pre p0 n0 c0 x2 m →
 (∃ F1 : Int → Int → Prop × Nat, ((K.i64 (-1 : Int)) ∧ (K.i64 0) ∧ (F1 (-1 : Int) 0).1) ∧
 ∀ x3 : Int, mi ≤ x3 → x3 ≤ ma → ∀ x4 : Int, mi ≤ x4 → x4 ≤ ma → (F1 x3 x4).1 →
 ((x4 < x2 →
 (0 ≤ x4 ∧ (x4 < (n0 : Int) ∧ (p0 ≠ none ∧ (HasI m p0 (0 + (x4 * 8)) 1 ∧ (∃ x5 : Int, cellI m p0 (0 + (x4 * 8)) = some (vI x5) ∧ (K.i64 x5) ∧ ((x5 = 3 →
 (0 ≤ x4 ∧ (x4 < (n0 : Int) ∧ (p0 ≠ none ∧ (HasI m p0 ((0 + (x4 * 8)) + 2) 1 ∧ (∃ x6 : Int, cellI m p0 ((0 + (x4 * 8)) + 2) = some (vI x6) ∧ (K.i64 x6) ∧ (0 ≤ x2 ∧ (x2 < (n0 : Int) ∧ (p0 ≠ none ∧ (HasI m p0 ((0 + (x2 * 8)) + 2) 1 ∧ (∃ x7 : Int, cellI m p0 ((0 + (x2 * 8)) + 2) = some (vI x7) ∧ (K.i64 x7) ∧ ((x6 = x7 →
 (0 ≤ x4 ∧ (x4 < (n0 : Int) ∧ (p0 ≠ none ∧ (HasI m p0 ((0 + (x4 * 8)) + 3) 1 ∧ (∃ x8 : Int, cellI m p0 ((0 + (x4 * 8)) + 3) = some (vI x8) ∧ (K.i64 x8) ∧ (0 ≤ x2 ∧ (x2 < (n0 : Int) ∧ (p0 ≠ none ∧ (HasI m p0 ((0 + (x2 * 8)) + 3) 1 ∧ (∃ x9 : Int, cellI m p0 ((0 + (x2 * 8)) + 3) = some (vI x9) ∧ (K.i64 x9) ∧ ((x8 = x9 →
 (0 ≤ x4 ∧ (x4 < (n0 : Int) ∧ (p0 ≠ none ∧ (HasI m p0 ((0 + (x4 * 8)) + 4) 1 ∧ (∃ x10 : Int, cellI m p0 ((0 + (x4 * 8)) + 4) = some (vI x10) ∧ (K.i64 x10) ∧ (0 ≤ x2 ∧ (x2 < (n0 : Int) ∧ (p0 ≠ none ∧ (HasI m p0 ((0 + (x2 * 8)) + 4) 1 ∧ (∃ x11 : Int, cellI m p0 ((0 + (x2 * 8)) + 4) = some (vI x11) ∧ (K.i64 x11) ∧ ((-9223372036854775808 : Int) ≤ (x11 - 1) ∧ ((x10 = (x11 - 1) →
 ((x4 + 1) ≤ 9223372036854775807 ∧ ((K.i64 x4) ∧ (mi ≤ (x4 + 1) ∧ (x4 + 1) ≤ ma) ∧ ((F1 x4 (x4 + 1)).1 ∧ (F1 x4 (x4 + 1)).2 < (F1 x3 x4).2)))) ∧
 (x10 ≠ (x11 - 1) →
 ((x4 + 1) ≤ 9223372036854775807 ∧ ((K.i64 x3) ∧ (mi ≤ (x4 + 1) ∧ (x4 + 1) ≤ ma) ∧ ((F1 x3 (x4 + 1)).1 ∧ (F1 x3 (x4 + 1)).2 < (F1 x3 x4).2))))))))))))))))) ∧
 (x8 ≠ x9 →
 ((x4 + 1) ≤ 9223372036854775807 ∧ ((K.i64 x3) ∧ (mi ≤ (x4 + 1) ∧ (x4 + 1) ≤ ma) ∧ ((F1 x3 (x4 + 1)).1 ∧ (F1 x3 (x4 + 1)).2 < (F1 x3 x4).2)))))))))))))))) ∧
 (x6 ≠ x7 →
 ((x4 + 1) ≤ 9223372036854775807 ∧ ((K.i64 x3) ∧ (mi ≤ (x4 + 1) ∧ (x4 + 1) ≤ ma) ∧ ((F1 x3 (x4 + 1)).1 ∧ (F1 x3 (x4 + 1)).2 < (F1 x3 x4).2)))))))))))))))) ∧
 (x5 ≠ 3 →
 ((x4 + 1) ≤ 9223372036854775807 ∧ ((K.i64 x3) ∧ (mi ≤ (x4 + 1) ∧ (x4 + 1) ≤ ma) ∧ ((F1 x3 (x4 + 1)).1 ∧ (F1 x3 (x4 + 1)).2 < (F1 x3 x4).2))))))))))) ∧
 (x2 ≤ x4 →
 ((K.i64 x3) ∧ rFai_post p0 n0 c0 x2 m x3))))
set_option maxHeartbeats 4000000 in
theorem rFai_vc : rFai_VC := by
 intro m p n c hn hc i i1 i2 ⟨⟨h0, hlt, hb⟩, l, hl, hatt⟩
 obtain ⟨i, rfl⟩ := Int.eq_ofNat_of_zero_le h0
 have hlen := hl.1
 obtain ⟨x, hx, hp, hev, hhas⟩ := hl.at_ (i := (i : Int)) (by omega) hlt
 have hax := hatt x hx
 rw [Int.toNat_natCast] at hx
 obtain ⟨x1, x2, x3, x4, x5, x6, x7, x8⟩ := hev
 have kz : K.i64 0 := by constructor <;> decide
 have km : K.i64 (-1) := by constructor <;> decide
 refine ⟨fun u v => (∃ k : Nat, v = k ∧ k ≤ i ∧ ((u = -1 ∧ lastF (l.take k) x.job x.due (x.attempt - 1) = none) ∨ ∃ (j : Nat) (y : Ev), u = (j : Int) ∧ j < k ∧ l[j]? = some y ∧ lastF (l.take k) x.job x.due (x.attempt - 1) = some y.at_), ((i : Int) - v).toNat), ⟨km, kz, 0, rfl, by omega, .inl ⟨rfl, rfl⟩⟩, ?_⟩
 rintro u u1 u2 v v1 v2 ⟨k, rfl, hki, hinv⟩
 refine ⟨fun hki2 => ?_, fun hge => ⟨⟨u1, u2⟩, fun l2 x2' hl2 hx2 => ?_⟩⟩
 ·obtain ⟨y, hy, _, hey, hhy⟩ := hl.at_ (i := (k : Int)) (by omega) (by omega)
  rw [Int.toNat_natCast] at hy
  obtain ⟨y1, y2, y3, y4, y5, y6, y7, y8⟩ := hey
  have hkl := (List.getElem?_eq_some_iff.1 hy).1
  have htk : l.take (k + 1) = l.take k ++ [y] := by
   obtain ⟨hi2, e⟩ := List.getElem?_eq_some_iff.1 hy
   rw [← e, List.take_append_getElem]
  have no : ¬ (y.kind = 3 ∧ x.job = y.job ∧ x.due = y.due ∧ x.attempt - 1 = y.attempt) → ((k : Int) + 1) ≤ 9223372036854775807 ∧ ((K.i64 u) ∧ (IntKind.i64.min ≤ ((k : Int) + 1) ∧ ((k : Int) + 1) ≤ IntKind.i64.max) ∧ ((∃ k' : Nat, (k : Int) + 1 = k' ∧ k' ≤ i ∧ ((u = -1 ∧ lastF (l.take k') x.job x.due (x.attempt - 1) = none) ∨ ∃ (j : Nat) (y : Ev), u = (j : Int) ∧ j < k' ∧ l[j]? = some y ∧ lastF (l.take k') x.job x.due (x.attempt - 1) = some y.at_)) ∧ ((i : Int) - ((k : Int) + 1)).toNat < ((i : Int) - (k : Int)).toNat)) := fun h => by
   have e : lastF (l.take (k + 1)) x.job x.due (x.attempt - 1) = lastF (l.take k) x.job x.due (x.attempt - 1) := by rw [htk, lastF_snoc, if_neg h]
   refine ⟨by omega, ⟨u1, u2⟩, k64 (by omega) (by omega), ⟨k + 1, by omega, by omega, ?_⟩, by omega⟩
   rcases hinv with ⟨g1, g2⟩ | ⟨j, z, g1, g2, g3, g4⟩
   ·exact .inl ⟨g1, by rw [e]; exact g2⟩
   ·exact .inr ⟨j, z, g1, by omega, g3, by rw [e]; exact g4⟩
  have h1 : ∀ (w : Nat) (z : Int), w < 8 → HasI m p z 8 → HasI m p (z + (w : Int)) 1 := fun w z hw h => hasI_part h w 1 (by omega)
  refine ⟨by omega, by omega, hp, by simpa using h1 0 _ (by omega) hhy, y.kind, y1.1, y1.2, fun hk3 => ⟨by omega, by omega, hp, h1 2 _ (by omega) hhy, y.job, y3.1, y3.2, by omega, hlt, hp, h1 2 _ (by omega) hhas, x.job, x3.1, x3.2, fun hj => ⟨by omega, by omega, hp, h1 3 _ (by omega) hhy, y.due, y4.1, y4.2, by omega, hlt, hp, h1 3 _ (by omega) hhas, x.due, x4.1, x4.2, fun hd => ⟨by omega, by omega, hp, h1 4 _ (by omega) hhy, y.attempt, y5.1, y5.2, by omega, hlt, hp, h1 4 _ (by omega) hhas, x.attempt, x5.1, x5.2, by omega, fun ha => ?_, fun ha => no (fun g => ha g.2.2.2.symm)⟩, fun hd => no (fun g => hd g.2.2.1.symm)⟩, fun hj => no (fun g => hj g.2.1.symm)⟩, fun hk3 => no (fun g => hk3 g.1)⟩
  refine ⟨by omega, k64 (by omega) (by omega), k64 (by omega) (by omega), ⟨k + 1, by omega, by omega, .inr ⟨k, y, rfl, by omega, hy, ?_⟩⟩, by first | omega | (simp only; omega)⟩
  rw [htk, lastF_snoc, if_pos ⟨hk3, hj.symm, hd.symm, ha.symm⟩]
 ·obtain rfl : k = i := by omega
  have := hl.uniq (fun _ _ h => h) hl2
  subst this
  rw [Int.toNat_natCast] at hx2 ⊢
  rw [hx] at hx2
  cases hx2
  exact hinv
theorem rFai_ok : SpOk Tryz.prog rFai :=
 con_ok (sps_of [] trivial rfl) (tab_ok _ [⟨(60, 3), [], [], [], []⟩]) 1000 rFai _ rfl rfl (Eq.mp (show rFai_VC = _ by kernel_rfl) rFai_vc)
def rRtr_pre (a b c d s t u : Int) (p : Option Addr) (n cc : Nat) (p1 : Option Addr) (n1 c1 : Nat) (m : Mem) : Prop := n1 ≤ 1000000 ∧ ∃ L l, JobsAt m p n L ∧ EvsAt m p1 n1 l
def rRtr_post (a b c d s t u : Int) (p : Option Addr) (n cc : Nat) (p1 : Option Addr) (n1 c1 : Nat) (m : Mem) (q : Option Addr) (n2 c2 : Nat) (z : Int) : Prop := ∀ L l, JobsAt m p n L → EvsAt m p1 n1 l → z = auE a b c d t u L l ∧ RowM m q (flRow 8 (auI a b c d t u L l (retF s L))) ∧ n2 = (auI a b c d t u L l (retF s L)).length
def rRtr : Sp := { args := [.i .i64, .i .i64, .i .i64, .i .i64, .i .u64, .i .i64, .i .i64, .sl, .sl], grp := [some 8, none], res := [.sl, .i .i64], rgrp := [none, none], fn := 12, spec := fun a0 a1 a2 a3 a4 a5 a6 a7 a8 a9 a10 a11 a12 => (rRtr_pre a0 a1 a2 a3 a4 a5 a6 a7 a8 a9 a10 a11 a12, rRtr_post a0 a1 a2 a3 a4 a5 a6 a7 a8 a9 a10 a11 a12) }
def rRtr_VC : Prop := ∀ m : Mem, ∀ x0 : Int, mi ≤ x0 → x0 ≤ ma → ∀ x1 : Int, mi ≤ x1 → x1 ≤ ma → ∀ x2 : Int, mi ≤ x2 → x2 ≤ ma → ∀ x3 : Int, mi ≤ x3 → x3 ≤ ma → ∀ x4 : Int, IntKind.u64.min ≤ x4 → x4 ≤ IntKind.u64.max → ∀ x5 : Int, mi ≤ x5 → x5 ≤ ma → ∀ x6 : Int, mi ≤ x6 → x6 ≤ ma → ∀ (p0 : Option Addr) (n0 c0 : Nat), n0 ≤ 9223372036854775807 → c0 ≤ 9223372036854775807 → ∀ (p1 : Option Addr) (n1 c1 : Nat), n1 ≤ 9223372036854775807 → c1 ≤ 9223372036854775807 → rRtr_pre x0 x1 x2 x3 x4 x5 x6 p0 n0 c0 p1 n1 c1 m →
 ((n0 ≤ 9223372036854775807 ∧ c0 ≤ 9223372036854775807) ∧ rcChk_pre x0 x1 x2 x3 x4 x5 x6 (p0.map fun p => p.add 0) n0 c0 m ∧ ∀ m1 : Mem, MemSub m m1 → ∀ x11 : Int, mi ≤ x11 → x11 ≤ ma → rcChk_post x0 x1 x2 x3 x4 x5 x6 (p0.map fun p => p.add 0) n0 c0 m1 x11 →
 ((x11 = 0 →
 ((n1 ≤ 9223372036854775807 ∧ c1 ≤ 9223372036854775807) ∧ rtChk_pre (p1.map fun p => p.add 0) n1 c1 (n0 : Int) m1 ∧ ∀ m2 : Mem, MemSub m1 m2 → ∀ x12 : Int, mi ≤ x12 → x12 ≤ ma → ∀ x13 : Int, mi ≤ x13 → x13 ≤ ma → rtChk_post (p1.map fun p => p.add 0) n1 c1 (n0 : Int) m2 x12 x13 →
 ((x13 ≠ 0 →
 ((K.i64 x13) ∧ rRtr_post x0 x1 x2 x3 x4 x5 x6 p0 n0 c0 p1 n1 c1 m2 none 0 0 x13)) ∧
 (x13 = 0 →
 ((0 ≤ (n1 : Int) ∧ (n1 : Int) ≤ 1000000) ∧ ∀ (p2 : Addr) (r0 : List Value), r0 = repl ((n1 : Int)).toNat [(Value.bool false)] → (∃ F3 : Int → List Value → Prop × Nat, ((K.i64 0) ∧ (F3 0 r0).1) ∧
 ∀ x14 : Int, mi ≤ x14 → x14 ≤ ma → ∀ r1 : List Value, (F3 x14 r1).1 →
 ((x14 < (n1 : Int) →
 (0 ≤ x14 ∧ (p1 ≠ none ∧ (HasI m2 p1 (0 + (x14 * 8)) 8 ∧ (∃ x15 : Int, cellI m2 p1 (0 + (x14 * 8)) = some (vI x15) ∧ (K.i64 x15) ∧ ((x15 ≠ 4 →
 ((x15 ≠ 1 →
 ((x14 + 1) ≤ 9223372036854775807 ∧ ((mi ≤ (x14 + 1) ∧ (x14 + 1) ≤ ma) ∧ ((F3 (x14 + 1) r1).1 ∧ (F3 (x14 + 1) r1).2 < (F3 x14 r1).2)))) ∧
 (x15 = 1 →
 (∃ x16 : Int, cellI m2 p1 ((0 + (x14 * 8)) + 4) = some (vI x16) ∧ (K.i64 x16) ∧ ((x16 = 1 →
 ((x14 + 1) ≤ 9223372036854775807 ∧ ((mi ≤ (x14 + 1) ∧ (x14 + 1) ≤ ma) ∧ ((F3 (x14 + 1) r1).1 ∧ (F3 (x14 + 1) r1).2 < (F3 x14 r1).2)))) ∧
 (x16 ≠ 1 →
 (∃ x17 : Int, cellI m2 p1 ((0 + (x14 * 8)) + 2) = some (vI x17) ∧ (K.i64 x17) ∧ (0 ≤ x17 ∧ (x17 < (n0 : Int) ∧ (p0 ≠ none ∧ (HasI m2 p0 (((0 + (x17 * 30)) + 15) + 11) 4 ∧ ((n1 ≤ 9223372036854775807 ∧ c1 ≤ 9223372036854775807) ∧ rFai_pre (p1.map fun p => p.add 0) n1 c1 x14 m2 ∧ ∀ m4 : Mem, MemSub m2 m4 → ∀ x18 : Int, mi ≤ x18 → x18 ≤ ma → rFai_post (p1.map fun p => p.add 0) n1 c1 x14 m4 x18 →
 ((x18 < 0 →
 (0 ≤ x14 ∧ ((some p2) ≠ none ∧ ((0 ≤ (0 + x14) ∧ (0 + x14) + 1 ≤ (r1.length : Int)) ∧ ∀ r2 : List Value, r2 = lsetAll r1 ((0 + x14)).toNat [(Value.bool true)] → ((x14 + 1) ≤ 9223372036854775807 ∧ ((mi ≤ (x14 + 1) ∧ (x14 + 1) ≤ ma) ∧ ((F3 (x14 + 1) r2).1 ∧ (F3 (x14 + 1) r2).2 < (F3 x14 r1).2))))))) ∧
 (0 ≤ x18 →
 (∃ x19 : Int, cellI m4 p0 (((0 + (x17 * 30)) + 15) + 11) = some (vI x19) ∧ (K.i64 x19) ∧ ((x19 + 1) ≤ 9223372036854775807 ∧ (((x19 + 1) < x16 →
 (0 ≤ x14 ∧ ((some p2) ≠ none ∧ ((0 ≤ (0 + x14) ∧ (0 + x14) + 1 ≤ (r1.length : Int)) ∧ ∀ r2 : List Value, r2 = lsetAll r1 ((0 + x14)).toNat [(Value.bool true)] → ((x14 + 1) ≤ 9223372036854775807 ∧ ((mi ≤ (x14 + 1) ∧ (x14 + 1) ≤ ma) ∧ ((F3 (x14 + 1) r2).1 ∧ (F3 (x14 + 1) r2).2 < (F3 x14 r1).2))))))) ∧
 (x16 ≤ (x19 + 1) →
 (0 ≤ x17 ∧ (x17 < (n0 : Int) ∧ (p0 ≠ none ∧ (HasI m4 p0 (0 + (x17 * 30)) 1 ∧ (∃ s0 : List UInt8, cellI m4 p0 (0 + (x17 * 30)) = some (Value.string ⟨List.toArray s0⟩) ∧ (∃ x20 : Int, cellI m4 p1 ((0 + (x14 * 8)) + 3) = some (vI x20) ∧ (K.i64 x20) ∧ ((-9223372036854775808 : Int) ≤ (x16 - 1) ∧ (x18 < (n1 : Int) ∧ (p1 ≠ none ∧ (HasI m4 p1 ((0 + (x18 * 8)) + 1) 1 ∧ (∃ x21 : Int, cellI m4 p1 ((0 + (x18 * 8)) + 1) = some (vI x21) ∧ (K.i64 x21) ∧ (∃ x22 : Int, cellI m4 p0 ((((0 + (x17 * 30)) + 15) + 11) + 1) = some (vI x22) ∧ (K.i64 x22) ∧ (∃ x23 : Int, cellI m4 p0 ((((0 + (x17 * 30)) + 15) + 11) + 2) = some (vI x23) ∧ (K.i64 x23) ∧ (∃ x24 : Int, cellI m4 p0 ((((0 + (x17 * 30)) + 15) + 11) + 3) = some (vI x24) ∧ (K.i64 x24) ∧ ((-9223372036854775808 : Int) ≤ (x16 - 1) ∧ (rNx_pre x19 x22 x23 x24 x4 s0 x20 (x16 - 1) x21 m4 ∧ ∀ m5 : Mem, MemSub m4 m5 → ∀ x25 : Int, mi ≤ x25 → x25 ≤ ma → ∀ b0 : Bool, ∀ x26 : Int, mi ≤ x26 → x26 ≤ ma → rNx_post x19 x22 x23 x24 x4 s0 x20 (x16 - 1) x21 m5 x25 b0 x26 →
 (∃ x27 : Int, cellI m5 p1 ((0 + (x14 * 8)) + 1) = some (vI x27) ∧ (K.i64 x27) ∧ (0 ≤ x14 ∧ ((some p2) ≠ none ∧ ((0 ≤ (0 + x14) ∧ (0 + x14) + 1 ≤ (r1.length : Int)) ∧ ∀ r2 : List Value, r2 = lsetAll r1 ((0 + x14)).toNat [(Value.bool (!(decide (x25 ≤ x27))))] → ((x14 + 1) ≤ 9223372036854775807 ∧ ((mi ≤ (x14 + 1) ∧ (x14 + 1) ≤ ma) ∧ ((F3 (x14 + 1) r2).1 ∧ (F3 (x14 + 1) r2).2 < (F3 x14 r1).2))))))))))))))))))))))))))))))))))))))))) ∧
 (x15 = 4 →
 (∃ x16 : Int, cellI m2 p1 ((0 + (x14 * 8)) + 2) = some (vI x16) ∧ (K.i64 x16) ∧ (0 ≤ x16 ∧ (x16 < (n0 : Int) ∧ (p0 ≠ none ∧ (HasI m2 p0 (((0 + (x16 * 30)) + 15) + 11) 4 ∧ ((n1 ≤ 9223372036854775807 ∧ c1 ≤ 9223372036854775807) ∧ rFai_pre (p1.map fun p => p.add 0) n1 c1 x14 m2 ∧ ∀ m4 : Mem, MemSub m2 m4 → ∀ x17 : Int, mi ≤ x17 → x17 ≤ ma → rFai_post (p1.map fun p => p.add 0) n1 c1 x14 m4 x17 →
 ((x17 < 0 →
 (0 ≤ x14 ∧ ((some p2) ≠ none ∧ ((0 ≤ (0 + x14) ∧ (0 + x14) + 1 ≤ (r1.length : Int)) ∧ ∀ r2 : List Value, r2 = lsetAll r1 ((0 + x14)).toNat [(Value.bool true)] → ((x14 + 1) ≤ 9223372036854775807 ∧ ((mi ≤ (x14 + 1) ∧ (x14 + 1) ≤ ma) ∧ ((F3 (x14 + 1) r2).1 ∧ (F3 (x14 + 1) r2).2 < (F3 x14 r1).2))))))) ∧
 (0 ≤ x17 →
 (∃ x18 : Int, cellI m4 p1 ((0 + (x14 * 8)) + 4) = some (vI x18) ∧ (K.i64 x18) ∧ (∃ x19 : Int, cellI m4 p0 (((0 + (x16 * 30)) + 15) + 11) = some (vI x19) ∧ (K.i64 x19) ∧ ((x19 + 1) ≤ 9223372036854775807 ∧ (((x19 + 1) < x18 →
 (0 ≤ x14 ∧ ((some p2) ≠ none ∧ ((0 ≤ (0 + x14) ∧ (0 + x14) + 1 ≤ (r1.length : Int)) ∧ ∀ r2 : List Value, r2 = lsetAll r1 ((0 + x14)).toNat [(Value.bool true)] → ((x14 + 1) ≤ 9223372036854775807 ∧ ((mi ≤ (x14 + 1) ∧ (x14 + 1) ≤ ma) ∧ ((F3 (x14 + 1) r2).1 ∧ (F3 (x14 + 1) r2).2 < (F3 x14 r1).2))))))) ∧
 (x18 ≤ (x19 + 1) →
 (0 ≤ x16 ∧ (x16 < (n0 : Int) ∧ (p0 ≠ none ∧ (HasI m4 p0 (0 + (x16 * 30)) 1 ∧ (∃ s0 : List UInt8, cellI m4 p0 (0 + (x16 * 30)) = some (Value.string ⟨List.toArray s0⟩) ∧ (∃ x20 : Int, cellI m4 p1 ((0 + (x14 * 8)) + 3) = some (vI x20) ∧ (K.i64 x20) ∧ ((-9223372036854775808 : Int) ≤ (x18 - 1) ∧ (x17 < (n1 : Int) ∧ (p1 ≠ none ∧ (HasI m4 p1 ((0 + (x17 * 8)) + 1) 1 ∧ (∃ x21 : Int, cellI m4 p1 ((0 + (x17 * 8)) + 1) = some (vI x21) ∧ (K.i64 x21) ∧ (∃ x22 : Int, cellI m4 p0 ((((0 + (x16 * 30)) + 15) + 11) + 1) = some (vI x22) ∧ (K.i64 x22) ∧ (∃ x23 : Int, cellI m4 p0 ((((0 + (x16 * 30)) + 15) + 11) + 2) = some (vI x23) ∧ (K.i64 x23) ∧ (∃ x24 : Int, cellI m4 p0 ((((0 + (x16 * 30)) + 15) + 11) + 3) = some (vI x24) ∧ (K.i64 x24) ∧ ((-9223372036854775808 : Int) ≤ (x18 - 1) ∧ (rNx_pre x19 x22 x23 x24 x4 s0 x20 (x18 - 1) x21 m4 ∧ ∀ m5 : Mem, MemSub m4 m5 → ∀ x25 : Int, mi ≤ x25 → x25 ≤ ma → ∀ b0 : Bool, ∀ x26 : Int, mi ≤ x26 → x26 ≤ ma → rNx_post x19 x22 x23 x24 x4 s0 x20 (x18 - 1) x21 m5 x25 b0 x26 →
 (∃ x27 : Int, cellI m5 p1 ((0 + (x14 * 8)) + 1) = some (vI x27) ∧ (K.i64 x27) ∧ (x17 < (n1 : Int) ∧ (p1 ≠ none ∧ (HasI m5 p1 ((0 + (x17 * 8)) + 1) 1 ∧ ((x27 ≠ x21 →
 (0 ≤ x14 ∧ ((some p2) ≠ none ∧ ((0 ≤ (0 + x14) ∧ (0 + x14) + 1 ≤ (r1.length : Int)) ∧ ∀ r2 : List Value, r2 = lsetAll r1 ((0 + x14)).toNat [(Value.bool true)] → ((x14 + 1) ≤ 9223372036854775807 ∧ ((mi ≤ (x14 + 1) ∧ (x14 + 1) ≤ ma) ∧ ((F3 (x14 + 1) r2).1 ∧ (F3 (x14 + 1) r2).2 < (F3 x14 r1).2))))))) ∧
 (x27 = x21 →
 (∃ x28 : Int, cellI m5 p1 ((0 + (x14 * 8)) + 7) = some (vI x28) ∧ (K.i64 x28) ∧ (0 ≤ x14 ∧ ((some p2) ≠ none ∧ ((0 ≤ (0 + x14) ∧ (0 + x14) + 1 ≤ (r1.length : Int)) ∧ ∀ r2 : List Value, r2 = lsetAll r1 ((0 + x14)).toNat [(Value.bool (!(decide (x28 = x25))))] → ((x14 + 1) ≤ 9223372036854775807 ∧ ((mi ≤ (x14 + 1) ∧ (x14 + 1) ≤ ma) ∧ ((F3 (x14 + 1) r2).1 ∧ (F3 (x14 + 1) r2).2 < (F3 x14 r1).2))))))))))))))))))))))))))))))))))))))))))))))))) ∧
 ((n1 : Int) ≤ x14 →
 (∀ m4 : Mem, MemSub m2 m4 → RowAt m4 (some p2) r1 → ((n1 ≤ 9223372036854775807 ∧ n1 ≤ 9223372036854775807) ∧ rFlw_pre 8 ((some p2).map fun p => p.add 0) n1 n1 m4 ∧ ∀ m5 : Mem, MemSub m4 m5 → ∀ (p3 : Option Addr) (n3 c3 : Nat), n3 ≤ 9223372036854775807 → c3 ≤ 9223372036854775807 → rFlw_post 8 ((some p2).map fun p => p.add 0) n1 n1 m5 p3 n3 c3 →
 ((n3 ≤ 9223372036854775807 ∧ c3 ≤ 9223372036854775807) ∧ (K.i64 0) ∧ rRtr_post x0 x1 x2 x3 x4 x5 x6 p0 n0 c0 p1 n1 c1 m5 (p3.map fun p => p.add 0) n3 c3 0))))))))))) ∧
 (x11 ≠ 0 →
 ((K.i64 x11) ∧ rRtr_post x0 x1 x2 x3 x4 x5 x6 p0 n0 c0 p1 n1 c1 m1 none 0 0 x11))))
set_option maxHeartbeats 4000000 in
theorem rRtr_vc : rRtr_VC := by
 intro m x0 _ _ x1 _ _ x2 _ _ x3 _ _ x4 _ _ x5 k5 k5' x6 k6 k6' p0 n0 c0 hn0 hc0 p1 n1 c1 hn1 hc1 ⟨hb, L, l, hL, hl⟩
 have hLn := hL.1
 have hln := hl.1
 have ps : ∀ (m' : Mem) (q : Option Addr) (n2 c2 : Nat) (z : Int), MemSub m m' → z = auE x0 x1 x2 x3 x5 x6 L l → RowM m' q (flRow 8 (auI x0 x1 x2 x3 x5 x6 L l (retF x4 L))) → n2 = (auI x0 x1 x2 x3 x5 x6 L l (retF x4 L)).length → rRtr_post x0 x1 x2 x3 x4 x5 x6 p0 n0 c0 p1 n1 c1 m' q n2 c2 z := by
  intro m' q n2 c2 z h e1 e2 e3 L' l' hL' hl'
  rw [← hL.uniq h hL', ← hl.uniq h hl']
  exact ⟨e1, e2, e3⟩
 have none_ : ∀ m' : Mem, RowM m' none [] := fun m' => ⟨(fun p h => by cases h), fun _ => rfl⟩
 refine ⟨⟨hn0, hc0⟩, ⟨L, by rw [map_add0]; exact hL⟩, fun m1 hm1 e ek1 ek2 he => ?_⟩
 rw [map_add0] at he
 have he : e = cfgE x0 x1 x2 x3 x5 x6 L := he L (hL.sub hm1)
 refine ⟨fun h0 => ?_, fun hne => ?_⟩
 rotate_left
 ·have ha : auE x0 x1 x2 x3 x5 x6 L l = e := by unfold auE; rw [← he, if_pos hne]
  have hi : auI x0 x1 x2 x3 x5 x6 L l (retF x4 L) = [] := by unfold auI; rw [ha, if_neg hne]
  exact ⟨⟨ek1, ek2⟩, ps m1 none 0 0 e hm1 ha.symm (by rw [hi]; exact none_ _) (by rw [hi]; rfl)⟩
 have hc : cfgE x0 x1 x2 x3 x5 x6 L = 0 := by rw [← he]; exact h0
 refine ⟨⟨hn1, hc1⟩, ?_⟩
 rw [map_add0]
 refine ⟨?_, fun m2 hm2 y yk1 yk2 g gk1 gk2 hg => ?_⟩
 ·exact ⟨l, hl.sub hm1, hb⟩
 have hg0 : (y, g) = trcE (n0 : Int) l := hg l (hl.sub hm1 |>.sub hm2)
 have ha : auE x0 x1 x2 x3 x5 x6 L l = g := by unfold auE; rw [if_neg (by rw [hc]; simp), hLn, ← hg0]
 refine ⟨fun hne => ?_, fun g0 => ?_⟩
 ·have hi : auI x0 x1 x2 x3 x5 x6 L l (retF x4 L) = [] := by unfold auI; rw [ha, if_neg hne]
  exact ⟨⟨gk1, gk2⟩, ps m2 none 0 0 g (hm1.trans hm2) ha.symm (by rw [hi]; exact none_ _) (by rw [hi]; rfl)⟩
 rw [g0] at hg0 ha
 obtain ⟨hjl, hev⟩ := trcE_ok hg0
 have hi : auI x0 x1 x2 x3 x5 x6 L l (retF x4 L) = idxs (marks (retF x4 L) l l.length) 0 := by unfold auI; rw [ha, if_pos rfl]
 obtain ⟨h64, _, hjob⟩ := cfg_ok hc
 have hL2 := (hL.sub hm1).sub hm2
 have hl2 := (hl.sub hm1).sub hm2
 have kz : K.i64 0 := by constructor <;> decide
 have hts : ∀ x ∈ l, 0 ≤ x.at_ ∧ x.at_ ≤ 253402300799 := by
  intro z hz'
  obtain ⟨k, hk'⟩ := List.getElem?_of_mem hz'
  exact evP_time (evErr_valid (hev k z hk')).1
 refine ⟨⟨by omega, by omega⟩, fun p2 r0 hr0 => ⟨fun y r => (∃ i : Nat, y = i ∧ i ≤ n1 ∧ r = mrow (retF x4 L) l n1 i, ((n1 : Int) - y).toNat), ⟨kz, 0, rfl, by omega, ?_⟩, ?_⟩⟩
 ·rw [hr0, mrow_nil, Int.toNat_natCast]
 rintro y2 yk3 yk4 r1 ⟨i, rfl, hi0, rfl⟩
 refine ⟨fun hlt => ?_, fun hge => ?_⟩
 rotate_left
 ·have e : i = n1 := by omega
  subst e
  intro m4 hm4 hrow
  refine ⟨⟨hn1, hn1⟩, ?_⟩
  rw [map_add0, mrow_end] at *
  have hrm : RowM m4 (some p2) (boolRow (marks (retF x4 L) l i)) := ⟨hrow, (fun h => by cases h)⟩
  refine ⟨⟨_, marks_len _ _ _, hrm, hb⟩, fun m5 hm5 p3 n3 c3 hn3 hc3 hp => ?_⟩
  obtain ⟨hp1, hp2⟩ := hp _ (marks_len _ _ _) (hrm.sub hm5)
  rw [map_add0]
  refine ⟨⟨hn3, hc3⟩, kz, ps m5 p3 n3 c3 0 (((hm1.trans hm2).trans hm4).trans hm5) ha.symm ?_ ?_⟩
  ·rw [hi, hln]; exact hp1
  ·rw [hi, hln]; exact hp2
 obtain ⟨x, hx, hpn, hat, hhas⟩ := hl2.at_ (i := (i : Int)) (by omega) hlt
 rw [Int.toNat_natCast] at hx
 have hva := evErr_valid (hev i x hx)
 have hrl := mrow_len (retF x4 L) l (n := n1) (i := i) hi0
 have again : ∀ r2 : List Value, r2 = mrow (retF x4 L) l n1 (i + 1) → (((i : Int) + 1) ≤ 9223372036854775807 ∧ ((IntKind.i64.min ≤ ((i : Int) + 1) ∧ ((i : Int) + 1) ≤ IntKind.i64.max) ∧ ((∃ k : Nat, ((i : Int) + 1) = k ∧ k ≤ n1 ∧ r2 = mrow (retF x4 L) l n1 k) ∧ ((n1 : Int) - ((i : Int) + 1)).toNat < ((n1 : Int) - (i : Int)).toNat))) := fun r2 h => ⟨by omega, k64 (by omega) (by omega), ⟨i + 1, by omega, by omega, h⟩, by omega⟩
 obtain ⟨q1, q2, q3, q4, q5, q6, q7, q8⟩ := hat
 have skip : x.kind ≠ 4 → (x.kind = 1 → x.attempt = 1) → (((i : Int) + 1) ≤ 9223372036854775807 ∧ ((IntKind.i64.min ≤ ((i : Int) + 1) ∧ ((i : Int) + 1) ≤ IntKind.i64.max) ∧ ((∃ k : Nat, ((i : Int) + 1) = k ∧ k ≤ n1 ∧ mrow (retF x4 L) l n1 i = mrow (retF x4 L) l n1 k) ∧ ((n1 : Int) - ((i : Int) + 1)).toNat < ((n1 : Int) - (i : Int)).toNat))) := fun h1 h2 => again _ (mrow_skip hx (by omega) (retF_no h1 h2)).symm
 refine ⟨by omega, hpn, hhas, x.kind, q1.1, q1.2, fun hk4 => ⟨fun hk1 => skip hk4 (fun g => (hk1 g).elim), fun hk1 => ⟨x.attempt, q5.1, q5.2, fun ha1 => skip hk4 (fun _ => ha1), fun ha1 => ?_⟩⟩, fun hk4 => ?_⟩
 ·-- a launch
  have hk6 : x.kind ≠ 6 := by omega
  have hj0 := evP_job hva.1 hk6
  have hj1 := hva.2.1 hk6
  have hkind : x.kind = 4 ∨ (x.kind = 1 ∧ x.attempt ≠ 1) := .inr ⟨hk1, ha1⟩
  have hat2 := ev_att hva.1 hkind
  obtain ⟨J, hJ, ⟨hJp, hJh⟩, _, _, _⟩ := hL2.at_ (i := x.job) hj0 (by omega)
  have hh : HasI m2 p0 (((0 + (x.job * 30)) + 15) + 11) 4 := by
   have h1 := hasI_part hJh 26 4 (by omega)
   rw [show ((0 + (x.job * 30)) + 15) + 11 = (0 + x.job * 30) + ((26 : Nat) : Int) by omega]
   exact h1
  have hret : As.retP_ J.pol.ret = 0 := pol_ret (hjob J (List.mem_of_getElem? hJ)).1
  have hmx := ret_ok hret
  refine ⟨x.job, q3.1, q3.2, hj0, by omega, hJp, hh, ⟨hn1, hc1⟩, ⟨⟨by omega, by omega, hb⟩, l, hl2, fun w hw => by rw [Int.toNat_natCast, hx] at hw; cases hw; omega⟩, fun m4 hm4 z _ _ hz => ?_⟩
  have hz := hz l x (hl2.sub hm4) (by rw [Int.toNat_natCast]; exact hx)
  rw [Int.toNat_natCast] at hz
  have hset : ∀ b : Bool, b = retF x4 L (l.take i) x → ∀ r2 : List Value, r2 = lsetAll (mrow (retF x4 L) l n1 i) ((0 + (i : Int))).toNat [.bool b] → r2 = mrow (retF x4 L) l n1 (i + 1) := by
   intro b hb' r2 hr2
   rw [hr2, hb', show ((0 + (i : Int))).toNat = i by omega, mrow_set hx (by omega)]
  have hl4 := hl2.sub hm4
  obtain ⟨J2, hJ2, ⟨_, hJh4⟩, hJn4, _, hJpol4⟩ := (hL2.sub hm4).at_ (i := x.job) hj0 (by omega)
  rw [hJ] at hJ2; cases hJ2
  obtain ⟨_, _, _, _, _, _, _, _, _, _, _, g26, g27, g28, g29⟩ := hJpol4
  refine ⟨fun hneg => ?_, fun hpos => ?_⟩
  ·rcases hz with ⟨_, hnone⟩ | ⟨k, y, e1, _⟩
   ·exact ⟨by omega, by simp, ⟨by omega, by omega⟩, fun r2 hr2 => again r2 (hset true (retF_none hkind hnone).symm r2 hr2)⟩
   ·omega
  rcases hz with ⟨e1, _⟩ | ⟨k, y, rfl, hki, hy, hlast⟩
  ·omega
  have hyv := evErr_valid (hev k y hy)
  have hyt := evP_time hyv.1
  obtain ⟨y', hy', _, hey, hhy⟩ := hl4.at_ (i := (k : Int)) (by omega) (by omega)
  rw [Int.toNat_natCast, hy] at hy'
  cases hy'
  have hhy1 : HasI m4 p1 ((0 + ((k : Int) * 8)) + 1) 1 := hasI_part hhy 1 1 (by omega)
  have hd : 0 ≤ x.due ∧ x.due ≤ 253402300799 := ev_due hva.1 hkind
  refine ⟨J.pol.ret.max_, cellI_to g26.1 (by omega), g26.2, by omega, fun hbig => ⟨by omega, by simp, ⟨by omega, by omega⟩, fun r2 hr2 => again r2 (hset true (retF_big hkind hJ hlast hbig).symm r2 hr2)⟩, fun hle => ⟨hj0, by omega, hJp, by simpa using hasI_part hJh4 0 1 (by omega), J.name, hJn4.1, x.due, (q4.sub hm4).1, q4.2, by omega, by omega, hpn, hhy1, y.at_, hey.2.1.1, hey.2.1.2, J.pol.ret.base, cellI_to g27.1 (by omega), g27.2, J.pol.ret.cap, cellI_to g28.1 (by omega), g28.2, J.pol.ret.jit, cellI_to g29.1 (by omega), g29.2, by omega, hJn4.2, fun m5 hm5 z _ _ b1 e _ _ hN => ?_⟩⟩
  have hN : (z, b1, e) = nxt J.pol.ret x4 J.name x.due (x.attempt - 1) y.at_ := hN
  have hR := retF_some (seed := x4) hkind hJ hlast hN
  have he0 : e = 0 := by
   have hn := nxt_at (seed := x4) (name := J.name) (due := x.due) (k := x.attempt - 1) (now := y.at_) hret (cfg_name hc J (List.mem_of_getElem? hJ)) hd hyt (by omega)
   rw [hn] at hN
   have := congrArg (fun p => p.2.2) hN
   exact this
  have hnb : decide (J.pol.ret.max_ + 1 < x.attempt) = false := decide_eq_false (by omega)
  rw [hnb, Bool.false_or, he0] at hR
  rw [if_pos hk1] at hR
  exact ⟨x.at_, ((q2.sub hm4).sub hm5).1, q2.2, by omega, by simp, ⟨by omega, by omega⟩, fun r2 hr2 => again r2 (hset _ (by rw [hR, Bool.eq_iff_iff]; simp) r2 hr2)⟩
 ·-- a retry that is announced
  have hk6 : x.kind ≠ 6 := by omega
  have hj0 := evP_job hva.1 hk6
  have hj1 := hva.2.1 hk6
  have hkind : x.kind = 4 ∨ (x.kind = 1 ∧ x.attempt ≠ 1) := .inl hk4
  have hat2 := ev_att hva.1 hkind
  obtain ⟨J, hJ, ⟨hJp, hJh⟩, _, _, _⟩ := hL2.at_ (i := x.job) hj0 (by omega)
  have hh : HasI m2 p0 (((0 + (x.job * 30)) + 15) + 11) 4 := by
   have h1 := hasI_part hJh 26 4 (by omega)
   rw [show ((0 + (x.job * 30)) + 15) + 11 = (0 + x.job * 30) + ((26 : Nat) : Int) by omega]
   exact h1
  have hret : As.retP_ J.pol.ret = 0 := pol_ret (hjob J (List.mem_of_getElem? hJ)).1
  have hmx := ret_ok hret
  refine ⟨x.job, q3.1, q3.2, hj0, by omega, hJp, hh, ⟨hn1, hc1⟩, ⟨⟨by omega, by omega, hb⟩, l, hl2, fun w hw => by rw [Int.toNat_natCast, hx] at hw; cases hw; omega⟩, fun m4 hm4 z _ _ hz => ?_⟩
  have hz := hz l x (hl2.sub hm4) (by rw [Int.toNat_natCast]; exact hx)
  rw [Int.toNat_natCast] at hz
  have hset : ∀ b : Bool, b = retF x4 L (l.take i) x → ∀ r2 : List Value, r2 = lsetAll (mrow (retF x4 L) l n1 i) ((0 + (i : Int))).toNat [.bool b] → r2 = mrow (retF x4 L) l n1 (i + 1) := by
   intro b hb' r2 hr2
   rw [hr2, hb', show ((0 + (i : Int))).toNat = i by omega, mrow_set hx (by omega)]
  have hl4 := hl2.sub hm4
  obtain ⟨J2, hJ2, ⟨_, hJh4⟩, hJn4, _, hJpol4⟩ := (hL2.sub hm4).at_ (i := x.job) hj0 (by omega)
  rw [hJ] at hJ2; cases hJ2
  obtain ⟨_, _, _, _, _, _, _, _, _, _, _, g26, g27, g28, g29⟩ := hJpol4
  refine ⟨fun hneg => ?_, fun hpos => ?_⟩
  ·rcases hz with ⟨_, hnone⟩ | ⟨k, y, e1, _⟩
   ·exact ⟨by omega, by simp, ⟨by omega, by omega⟩, fun r2 hr2 => again r2 (hset true (retF_none hkind hnone).symm r2 hr2)⟩
   ·omega
  rcases hz with ⟨e1, _⟩ | ⟨k, y, rfl, hki, hy, hlast⟩
  ·omega
  have hyv := evErr_valid (hev k y hy)
  have hyt := evP_time hyv.1
  obtain ⟨y', hy', _, hey, hhy⟩ := hl4.at_ (i := (k : Int)) (by omega) (by omega)
  rw [Int.toNat_natCast, hy] at hy'
  cases hy'
  have hhy1 : HasI m4 p1 ((0 + ((k : Int) * 8)) + 1) 1 := hasI_part hhy 1 1 (by omega)
  have hd : 0 ≤ x.due ∧ x.due ≤ 253402300799 := ev_due hva.1 hkind
  refine ⟨x.attempt, (q5.sub hm4).1, q5.2, J.pol.ret.max_, cellI_to g26.1 (by omega), g26.2, by omega, fun hbig => ⟨by omega, by simp, ⟨by omega, by omega⟩, fun r2 hr2 => again r2 (hset true (retF_big hkind hJ hlast hbig).symm r2 hr2)⟩, fun hle => ⟨hj0, by omega, hJp, by simpa using hasI_part hJh4 0 1 (by omega), J.name, hJn4.1, x.due, (q4.sub hm4).1, q4.2, by omega, by omega, hpn, hhy1, y.at_, hey.2.1.1, hey.2.1.2, J.pol.ret.base, cellI_to g27.1 (by omega), g27.2, J.pol.ret.cap, cellI_to g28.1 (by omega), g28.2, J.pol.ret.jit, cellI_to g29.1 (by omega), g29.2, by omega, hJn4.2, fun m5 hm5 z _ _ b1 e _ _ hN => ?_⟩⟩
  have hN : (z, b1, e) = nxt J.pol.ret x4 J.name x.due (x.attempt - 1) y.at_ := hN
  have hR := retF_some (seed := x4) hkind hJ hlast hN
  have he0 : e = 0 := by
   have hn := nxt_at (seed := x4) (name := J.name) (due := x.due) (k := x.attempt - 1) (now := y.at_) hret (cfg_name hc J (List.mem_of_getElem? hJ)) hd hyt (by omega)
   rw [hn] at hN
   have := congrArg (fun p => p.2.2) hN
   exact this
  have hnb : decide (J.pol.ret.max_ + 1 < x.attempt) = false := decide_eq_false (by omega)
  rw [hnb, Bool.false_or, he0] at hR
  rw [if_neg (by omega)] at hR
  refine ⟨x.at_, ((q2.sub hm4).sub hm5).1, q2.2, by omega, hpn, hasI_sub hm5 hhy1, fun hne => ⟨by omega, by simp, ⟨by omega, by omega⟩, fun r2 hr2 => again r2 (hset true (by rw [hR]; simp [hne]) r2 hr2)⟩, fun heq => ⟨x.when_, ((q8.sub hm4).sub hm5).1, q8.2, by omega, by simp, ⟨by omega, by omega⟩, fun r2 hr2 => again r2 (hset _ (by rw [hR, heq]; simp) r2 hr2)⟩⟩
theorem rRtr_pg : ∀ m, forallF rRtr.args rRtr.spec fun r => r.1 m → GlobsAt m [] := fun m a b c d s t u p n cc p1 n1 c1 h => trivial
theorem rRtr_ok : SpOk Tryz.prog rRtr :=
 con_okZ [] [] [] rfl (sps_of [rcChk, rtChk, rFlw, rFai, rNx] ⟨rcChk_ok, ⟨rtChk_ok, ⟨rFlw_ok, ⟨rFai_ok, ⟨rNx_ok, trivial⟩⟩⟩⟩⟩ rfl) (tab_ok _ [⟨(126, 6), [], [], [], [2]⟩]) 1000 rRtr _ rfl rfl rRtr_pg (Eq.mp (show rRtr_VC = _ by kernel_rfl) rRtr_vc)
end Go.Proofs.YtmpbddmbpeoehaaGreatDoor.Vc
