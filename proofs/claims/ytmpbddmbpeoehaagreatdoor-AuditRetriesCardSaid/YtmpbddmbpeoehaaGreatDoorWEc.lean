/-
  Contracts, by their trees; Contracts, by their trees.
-/
import Derived.Test.YtmpbddmbpeoehaaGreatDoorWN
set_option linter.unusedVariables false
set_option linter.unusedSimpArgs false
namespace Go.Proofs.YtmpbddmbpeoehaaGreatDoor.Vc
theorem flRow_get (k : Int) : ∀ (I : List Nat) (i j : Nat), I[i]? = some j → (flRow k I)[2 * i]? = some (.int .i64 k) ∧ (flRow k I)[2 * i + 1]? = some (.int .i64 (j : Int)) := by
 intro I
 induction I with
 | nil => intro i j h; simp at h
 | cons x I ih =>
  intro i j h
  cases i with
  | zero => simp at h; subst h; exact ⟨rfl, rfl⟩
  | succ i =>
   obtain ⟨h1, h2⟩ := ih i j (by simpa using h)
   rw [show 2 * (i + 1) = 2 * i + 1 + 1 by omega]
   exact ⟨h1, h2⟩
theorem idxs_lt : ∀ (B : List Bool) (k i : Nat), i ∈ idxs B k → i < k + B.length := by
 intro B
 induction B with
 | nil => intro k i h; cases h
 | cons b B ih =>
  intro k i h
  simp only [idxs] at h
  cases b with
  | true =>
   rcases List.mem_cons.1 h with h | h
   ·simp only [List.length_cons]; omega
   ·have := ih (k + 1) i h; simp only [List.length_cons]; omega
  | false => have := ih (k + 1) i h; simp only [List.length_cons]; omega
theorem auI_le {a b c d t u : Int} {L : List JobR} {l : List As.Ev} {f : List As.Ev → As.Ev → Bool} {i : Nat} (h : i ∈ auI a b c d t u L l f) : i < l.length := by
 unfold auI at h
 split at h
 ·have := idxs_lt _ _ _ h
  rw [marks_len] at this; omega
 ·cases h
def eqF_pre (p : Option Addr) (n c : Nat) (p1 : Option Addr) (n1 c1 : Nat) (m : Mem) : Prop := ∃ k I, K.i64 k ∧ n = I.length ∧ n1 = I.length ∧ RowM m p (flRow k I) ∧ RowM m p1 (flRow k I) ∧ ∀ i ∈ I, i ≤ 1000000
def eqF_post (p : Option Addr) (n c : Nat) (p1 : Option Addr) (n1 c1 : Nat) (m : Mem) (b : Bool) : Prop := b = true
def eqF : Sp := { args := [.sl, .sl], grp := [none, none], res := [.b], rgrp := [none], fn := 13, spec := fun a0 a1 a2 a3 a4 a5 => (eqF_pre a0 a1 a2 a3 a4 a5, eqF_post a0 a1 a2 a3 a4 a5) }
def eqF_VC : Prop := ∀ m : Mem, ∀ (p0 : Option Addr) (n0 c0 : Nat), n0 ≤ 9223372036854775807 → c0 ≤ 9223372036854775807 → ∀ (p1 : Option Addr) (n1 c1 : Nat), n1 ≤ 9223372036854775807 → c1 ≤ 9223372036854775807 → eqF_pre p0 n0 c0 p1 n1 c1 m →
 (((n0 : Int) ≠ (n1 : Int) →
 (eqF_post p0 n0 c0 p1 n1 c1 m false)) ∧
 ((n0 : Int) = (n1 : Int) →
 (∃ F1 : Bool → Int → Prop × Nat, ((K.i64 0) ∧ (F1 false 0).1) ∧
 ∀ b0 : Bool, ∀ x4 : Int, mi ≤ x4 → x4 ≤ ma → (F1 b0 x4).1 →
 ((x4 < (n0 : Int) →
 (0 ≤ x4 ∧ (p0 ≠ none ∧ (HasI m p0 (0 + (x4 * 2)) 2 ∧ (0 ≤ x4 ∧ (x4 < (n1 : Int) ∧ (p1 ≠ none ∧ (HasI m p1 (0 + (x4 * 2)) 2 ∧ (∃ x5 : Int, cellI m p0 (0 + (x4 * 2)) = some (vI x5) ∧ (K.i64 x5) ∧ (∃ x6 : Int, cellI m p1 (0 + (x4 * 2)) = some (vI x6) ∧ (K.i64 x6) ∧ (∃ x7 : Int, cellI m p0 ((0 + (x4 * 2)) + 1) = some (vI x7) ∧ (K.i64 x7) ∧ (∃ x8 : Int, cellI m p1 ((0 + (x4 * 2)) + 1) = some (vI x8) ∧ (K.i64 x8) ∧ (((x5 = x6 → x7 ≠ x8) →
 (eqF_post p0 n0 c0 p1 n1 c1 m false)) ∧
 ((x5 = x6 ∧ x7 = x8) →
 ((x4 + 1) ≤ 9223372036854775807 ∧ ((mi ≤ (x4 + 1) ∧ (x4 + 1) ≤ ma) ∧ ((F1 b0 (x4 + 1)).1 ∧ (F1 b0 (x4 + 1)).2 < (F1 b0 x4).2))))))))))))))))) ∧
 ((n0 : Int) ≤ x4 →
 (eqF_post p0 n0 c0 p1 n1 c1 m true))))))
set_option maxHeartbeats 4000000 in
theorem eqF_vc : eqF_VC := by
 intro m p n c hn hc p1 n1 c1 hn1 hc1 ⟨k, I, hk, e1, e2, h1, h2, hI⟩
 subst e1
 refine ⟨fun h => absurd (by omega) h, fun _ => ⟨fun b y => (∃ i : Nat, y = i ∧ i ≤ I.length, ((I.length : Int) - y).toNat), ⟨by constructor <;> decide, 0, rfl, by omega⟩, ?_⟩⟩
 rintro b y ky1 ky2 ⟨i, rfl, hi⟩
 refine ⟨fun hlt => ?_, fun _ => rfl⟩
 have hj : I[i]? = some (I[i]'(by omega)) := List.getElem?_eq_getElem _
 have hjm := hI _ (List.mem_of_getElem? hj)
 obtain ⟨g1, g2⟩ := flRow_get k I i _ hj
 have a1 := (h1.int g1 hk).to (b := 0 + (i : Int) * 2) (by omega)
 have a2 := (h1.int g2 (k64 (by omega) (by omega))).to (b := (0 + (i : Int) * 2) + 1) (by omega)
 have b1 := (h2.int g1 hk).to (b := 0 + (i : Int) * 2) (by omega)
 have b2 := (h2.int g2 (k64 (by omega) (by omega))).to (b := (0 + (i : Int) * 2) + 1) (by omega)
 have two : ∀ {q : Option Addr} {x y : Int}, IntAt m q (0 + (i : Int) * 2) x → IntAt m q ((0 + (i : Int) * 2) + 1) y → HasI m q (0 + (i : Int) * 2) 2 := by
  intro q x y u v
  refine (hasI_of (by omega) fun j hj => ?_).2
  rcases (by omega : j = 0 ∨ j = 1) with rfl | rfl
  ·exact ⟨_, by simpa using u.1⟩
  ·exact ⟨_, v.1⟩
 exact ⟨by omega, a1.ne, two a1 a2, by omega, by omega, b1.ne, two b1 b2, _, a1.1, a1.2, _, b1.1, b1.2, _, a2.1, a2.2, _, b2.1, b2.2, fun h => absurd rfl (h rfl), fun _ => ⟨by omega, k64 (by omega) (by omega), ⟨i + 1, by omega, by omega⟩, by first | omega | (simp only; omega)⟩⟩
theorem eqF_ok : SpOk Tryz.prog eqF :=
 con_ok (sps_of [] trivial rfl) (tab_ok _ [⟨(26, 4), [], [], [], []⟩]) 1000 eqF _ rfl rfl (Eq.mp (show eqF_VC = _ by kernel_rfl) eqF_vc)
def fFew_pre (a b c d s t u : Int) (p : Option Addr) (n cc : Nat) (m : Mem) : Prop := ∃ L, JobsAt m p n L
def fFew_post (a b c d s t u : Int) (p : Option Addr) (n cc : Nat) (m : Mem) (b : Bool) : Prop := True
def fFew : Sp := { args := [.i .i64, .i .i64, .i .i64, .i .i64, .i .u64, .i .i64, .i .i64, .sl], grp := [some 8], res := [.b], rgrp := [none], fn := 75, spec := fun a0 a1 a2 a3 a4 a5 a6 a7 a8 a9 => (fFew_pre a0 a1 a2 a3 a4 a5 a6 a7 a8 a9, fFew_post a0 a1 a2 a3 a4 a5 a6 a7 a8 a9) }
def fFew_VC : Prop := ∀ m : Mem, ∀ x0 : Int, mi ≤ x0 → x0 ≤ ma → ∀ x1 : Int, mi ≤ x1 → x1 ≤ ma → ∀ x2 : Int, mi ≤ x2 → x2 ≤ ma → ∀ x3 : Int, mi ≤ x3 → x3 ≤ ma → ∀ x4 : Int, IntKind.u64.min ≤ x4 → x4 ≤ IntKind.u64.max → ∀ x5 : Int, mi ≤ x5 → x5 ≤ ma → ∀ x6 : Int, mi ≤ x6 → x6 ≤ ma → ∀ (p0 : Option Addr) (n0 c0 : Nat), n0 ≤ 9223372036854775807 → c0 ≤ 9223372036854775807 → fFew_pre x0 x1 x2 x3 x4 x5 x6 p0 n0 c0 m →
 ((100 < (n0 : Int) →
 (fFew_post x0 x1 x2 x3 x4 x5 x6 p0 n0 c0 m false)) ∧
 ((n0 : Int) ≤ 100 →
 (∃ F1 : Bool → Int → Prop × Nat, ((K.i64 0) ∧ (F1 false 0).1) ∧
 ∀ b0 : Bool, ∀ x9 : Int, mi ≤ x9 → x9 ≤ ma → (F1 b0 x9).1 →
 ((x9 < (n0 : Int) →
 (0 ≤ x9 ∧ (p0 ≠ none ∧ (HasI m p0 (((0 + (x9 * 30)) + 1) + 13) 1 ∧ (∃ (p1 : Option Addr) (n1 c1 : Nat), cellI m p0 (((0 + (x9 * 30)) + 1) + 13) = some (Value.slice p1 n1 c1) ∧ (n1 ≤ c1 ∧ c1 ≤ 9223372036854775807) ∧ ((100 < (n1 : Int) →
 (fFew_post x0 x1 x2 x3 x4 x5 x6 p0 n0 c0 m false)) ∧
 ((n1 : Int) ≤ 100 →
 (0 ≤ x9 ∧ (p0 ≠ none ∧ (HasI m p0 (0 + (x9 * 30)) 1 ∧ (∃ s0 : List UInt8, cellI m p0 (0 + (x9 * 30)) = some (Value.string ⟨List.toArray s0⟩) ∧ (∀ x12 : Int, x12 = ((s0.length : Nat) : Int) → 0 ≤ x12 ∧ x12 ≤ 9223372036854775807 ∧ ((100 < x12 →
 (fFew_post x0 x1 x2 x3 x4 x5 x6 p0 n0 c0 m false)) ∧
 (x12 ≤ 100 →
 ((x9 + 1) ≤ 9223372036854775807 ∧ ((mi ≤ (x9 + 1) ∧ (x9 + 1) ≤ ma) ∧ ((F1 b0 (x9 + 1)).1 ∧ (F1 b0 (x9 + 1)).2 < (F1 b0 x9).2))))))))))))))))) ∧
 ((n0 : Int) ≤ x9 →
 (fFew_post x0 x1 x2 x3 x4 x5 x6 p0 n0 c0 m true))))))
set_option maxHeartbeats 4000000 in
theorem fFew_vc : fFew_VC := by
 intro m x0 _ _ x1 _ _ x2 _ _ x3 _ _ x4 _ _ x5 _ _ x6 _ _ p n c hn hc ⟨L, hL⟩
 refine ⟨fun _ => trivial, fun h100 => ⟨fun b y => (0 ≤ y, ((n : Int) - y).toNat), ⟨by constructor <;> decide, Int.le_refl 0⟩, ?_⟩⟩
 intro b y ky1 ky2 h0
 refine ⟨fun hlt => ?_, fun _ => trivial⟩
 obtain ⟨J, hJ, hat⟩ := hL.at_ h0 hlt
 obtain ⟨⟨q1, q2⟩, hnm, hpl, _⟩ := hat
 obtain ⟨_, _, _, _, _, _, _, _, _, _, _, _, _, q, n2, c2, s1, s2, s3⟩ := hpl
 have hh : HasI m p (((0 + (y * 30)) + 1) + 13) 1 := by
  have h1 := hasI_part q2 14 1 (by omega)
  rw [show ((0 + (y * 30)) + 1) + 13 = (0 + y * 30) + ((14 : Nat) : Int) by omega]
  exact h1
 have hh0 : HasI m p (0 + (y * 30)) 1 := by
  have h1 := hasI_part q2 0 1 (by omega)
  rw [show (0 + (y * 30)) = (0 + y * 30) + ((0 : Nat) : Int) by omega]
  exact h1
 refine ⟨h0, q1, hh, q, n2, c2, cellI_to s1 (by omega), s2, fun _ => trivial, fun _ => ⟨h0, q1, hh0, J.name, hnm.1, fun z hz => ⟨by omega, by have := hnm.2; omega, fun _ => trivial, fun _ => ⟨by omega, k64 (by omega) (by omega), ?_, ?_⟩⟩⟩⟩
 ·show 0 ≤ y + 1; omega
 ·show ((n : Int) - (y + 1)).toNat < ((n : Int) - y).toNat; omega
theorem fFew_ok : SpOk Tryz.prog fFew :=
 con_ok (sps_of [] trivial rfl) (tab_ok _ [⟨(34, 4), [], [], [], []⟩]) 1000 fFew _ rfl rfl (Eq.mp (show fFew_VC = _ by kernel_rfl) fFew_vc)
end Go.Proofs.YtmpbddmbpeoehaaGreatDoor.Vc
namespace Go.Proofs.YtmpbddmbpeoehaaGreatDoor.Vc
def few_pre (a b c d s t u : Int) (p : Option Addr) (n cc : Nat) (p1 : Option Addr) (n1 c1 : Nat) (m : Mem) : Prop := ∃ L, JobsAt m p n L
def few_post (a b c d s t u : Int) (p : Option Addr) (n cc : Nat) (p1 : Option Addr) (n1 c1 : Nat) (m : Mem) (b : Bool) : Prop := b = true → n1 ≤ 100
def few : Sp := { args := [.i .i64, .i .i64, .i .i64, .i .i64, .i .u64, .i .i64, .i .i64, .sl, .sl], grp := [some 8, none], res := [.b], rgrp := [none], fn := 9, spec := fun a0 a1 a2 a3 a4 a5 a6 a7 a8 a9 a10 a11 a12 => (few_pre a0 a1 a2 a3 a4 a5 a6 a7 a8 a9 a10 a11 a12, few_post a0 a1 a2 a3 a4 a5 a6 a7 a8 a9 a10 a11 a12) }
def few_VC : Prop := ∀ m : Mem, ∀ x0 : Int, mi ≤ x0 → x0 ≤ ma → ∀ x1 : Int, mi ≤ x1 → x1 ≤ ma → ∀ x2 : Int, mi ≤ x2 → x2 ≤ ma → ∀ x3 : Int, mi ≤ x3 → x3 ≤ ma → ∀ x4 : Int, IntKind.u64.min ≤ x4 → x4 ≤ IntKind.u64.max → ∀ x5 : Int, mi ≤ x5 → x5 ≤ ma → ∀ x6 : Int, mi ≤ x6 → x6 ≤ ma → ∀ (p0 : Option Addr) (n0 c0 : Nat), n0 ≤ 9223372036854775807 → c0 ≤ 9223372036854775807 → ∀ (p1 : Option Addr) (n1 c1 : Nat), n1 ≤ 9223372036854775807 → c1 ≤ 9223372036854775807 → few_pre x0 x1 x2 x3 x4 x5 x6 p0 n0 c0 p1 n1 c1 m →
 (((n1 : Int) ≤ 100 →
 ((n0 ≤ 9223372036854775807 ∧ c0 ≤ 9223372036854775807) ∧ fFew_pre x0 x1 x2 x3 x4 x5 x6 (p0.map fun p => p.add 0) n0 c0 m ∧ ∀ m1 : Mem, MemSub m m1 → ∀ b0 : Bool, fFew_post x0 x1 x2 x3 x4 x5 x6 (p0.map fun p => p.add 0) n0 c0 m1 b0 →
 ((b0 = false →
 (few_post x0 x1 x2 x3 x4 x5 x6 p0 n0 c0 p1 n1 c1 m1 false)) ∧
 (b0 = true →
 ((8 < (n0 : Int) →
 (((n0 : Int) ≤ 64 →
 (few_post x0 x1 x2 x3 x4 x5 x6 p0 n0 c0 p1 n1 c1 m1 false)) ∧
 (64 < (n0 : Int) →
 ((64 < x1 →
 ((x1 ≤ 1024 →
 (few_post x0 x1 x2 x3 x4 x5 x6 p0 n0 c0 p1 n1 c1 m1 false)) ∧
 (1024 < x1 →
 (∃ F2 : Bool → Int → Prop × Nat, ((K.i64 0) ∧ (F2 false 0).1) ∧
 ∀ b1 : Bool, ∀ x11 : Int, mi ≤ x11 → x11 ≤ ma → (F2 b1 x11).1 →
 ((x11 < (n0 : Int) →
 ((x11 ≤ 8 →
 (0 ≤ x11 ∧ (p0 ≠ none ∧ (HasI m1 p0 (((0 + (x11 * 30)) + 1) + 13) 1 ∧ (∃ (p2 : Option Addr) (n2 c2 : Nat), cellI m1 p0 (((0 + (x11 * 30)) + 1) + 13) = some (Value.slice p2 n2 c2) ∧ (n2 ≤ c2 ∧ c2 ≤ 9223372036854775807) ∧ ((8 < (n2 : Int) →
 (few_post x0 x1 x2 x3 x4 x5 x6 p0 n0 c0 p1 n1 c1 m1 false)) ∧
 ((n2 : Int) ≤ 8 →
 ((mi ≤ (x11 + 1) ∧ (x11 + 1) ≤ ma) ∧ ((F2 b1 (x11 + 1)).1 ∧ (F2 b1 (x11 + 1)).2 < (F2 b1 x11).2))))))))) ∧
 (8 < x11 →
 (few_post x0 x1 x2 x3 x4 x5 x6 p0 n0 c0 p1 n1 c1 m1 true)))) ∧
 ((n0 : Int) ≤ x11 →
 (few_post x0 x1 x2 x3 x4 x5 x6 p0 n0 c0 p1 n1 c1 m1 true))))))) ∧
 (x1 ≤ 64 →
 (∃ F2 : Bool → Int → Prop × Nat, ((K.i64 0) ∧ (F2 false 0).1) ∧
 ∀ b1 : Bool, ∀ x11 : Int, mi ≤ x11 → x11 ≤ ma → (F2 b1 x11).1 →
 ((x11 < (n0 : Int) →
 ((x11 ≤ 8 →
 (0 ≤ x11 ∧ (p0 ≠ none ∧ (HasI m1 p0 (((0 + (x11 * 30)) + 1) + 13) 1 ∧ (∃ (p2 : Option Addr) (n2 c2 : Nat), cellI m1 p0 (((0 + (x11 * 30)) + 1) + 13) = some (Value.slice p2 n2 c2) ∧ (n2 ≤ c2 ∧ c2 ≤ 9223372036854775807) ∧ ((8 < (n2 : Int) →
 (few_post x0 x1 x2 x3 x4 x5 x6 p0 n0 c0 p1 n1 c1 m1 false)) ∧
 ((n2 : Int) ≤ 8 →
 ((mi ≤ (x11 + 1) ∧ (x11 + 1) ≤ ma) ∧ ((F2 b1 (x11 + 1)).1 ∧ (F2 b1 (x11 + 1)).2 < (F2 b1 x11).2))))))))) ∧
 (8 < x11 →
 (few_post x0 x1 x2 x3 x4 x5 x6 p0 n0 c0 p1 n1 c1 m1 true)))) ∧
 ((n0 : Int) ≤ x11 →
 (few_post x0 x1 x2 x3 x4 x5 x6 p0 n0 c0 p1 n1 c1 m1 true))))))))) ∧
 ((n0 : Int) ≤ 8 →
 ((64 < x1 →
 ((x1 ≤ 1024 →
 (few_post x0 x1 x2 x3 x4 x5 x6 p0 n0 c0 p1 n1 c1 m1 false)) ∧
 (1024 < x1 →
 (∃ F2 : Bool → Int → Prop × Nat, ((K.i64 0) ∧ (F2 false 0).1) ∧
 ∀ b1 : Bool, ∀ x11 : Int, mi ≤ x11 → x11 ≤ ma → (F2 b1 x11).1 →
 ((x11 < (n0 : Int) →
 ((x11 ≤ 8 →
 (0 ≤ x11 ∧ (p0 ≠ none ∧ (HasI m1 p0 (((0 + (x11 * 30)) + 1) + 13) 1 ∧ (∃ (p2 : Option Addr) (n2 c2 : Nat), cellI m1 p0 (((0 + (x11 * 30)) + 1) + 13) = some (Value.slice p2 n2 c2) ∧ (n2 ≤ c2 ∧ c2 ≤ 9223372036854775807) ∧ ((8 < (n2 : Int) →
 (few_post x0 x1 x2 x3 x4 x5 x6 p0 n0 c0 p1 n1 c1 m1 false)) ∧
 ((n2 : Int) ≤ 8 →
 ((mi ≤ (x11 + 1) ∧ (x11 + 1) ≤ ma) ∧ ((F2 b1 (x11 + 1)).1 ∧ (F2 b1 (x11 + 1)).2 < (F2 b1 x11).2))))))))) ∧
 (8 < x11 →
 (few_post x0 x1 x2 x3 x4 x5 x6 p0 n0 c0 p1 n1 c1 m1 true)))) ∧
 ((n0 : Int) ≤ x11 →
 (few_post x0 x1 x2 x3 x4 x5 x6 p0 n0 c0 p1 n1 c1 m1 true))))))) ∧
 (x1 ≤ 64 →
 (∃ F2 : Bool → Int → Prop × Nat, ((K.i64 0) ∧ (F2 false 0).1) ∧
 ∀ b1 : Bool, ∀ x11 : Int, mi ≤ x11 → x11 ≤ ma → (F2 b1 x11).1 →
 ((x11 < (n0 : Int) →
 ((x11 ≤ 8 →
 (0 ≤ x11 ∧ (p0 ≠ none ∧ (HasI m1 p0 (((0 + (x11 * 30)) + 1) + 13) 1 ∧ (∃ (p2 : Option Addr) (n2 c2 : Nat), cellI m1 p0 (((0 + (x11 * 30)) + 1) + 13) = some (Value.slice p2 n2 c2) ∧ (n2 ≤ c2 ∧ c2 ≤ 9223372036854775807) ∧ ((8 < (n2 : Int) →
 (few_post x0 x1 x2 x3 x4 x5 x6 p0 n0 c0 p1 n1 c1 m1 false)) ∧
 ((n2 : Int) ≤ 8 →
 ((mi ≤ (x11 + 1) ∧ (x11 + 1) ≤ ma) ∧ ((F2 b1 (x11 + 1)).1 ∧ (F2 b1 (x11 + 1)).2 < (F2 b1 x11).2))))))))) ∧
 (8 < x11 →
 (few_post x0 x1 x2 x3 x4 x5 x6 p0 n0 c0 p1 n1 c1 m1 true)))) ∧
 ((n0 : Int) ≤ x11 →
 (few_post x0 x1 x2 x3 x4 x5 x6 p0 n0 c0 p1 n1 c1 m1 true)))))))))))) ∧
 (100 < (n1 : Int) →
 (few_post x0 x1 x2 x3 x4 x5 x6 p0 n0 c0 p1 n1 c1 m false)))
set_option maxHeartbeats 4000000 in
theorem few_vc : few_VC := by
 intro m x0 _ _ x1 _ _ x2 _ _ x3 _ _ x4 _ _ x5 _ _ x6 _ _ p n c hn hc p1 n1 c1 hn1 hc1 ⟨L, hL⟩
 refine ⟨fun h100 => ⟨⟨hn, hc⟩, ⟨L, by rw [map_add0]; exact hL⟩, fun m1 hm1 b0 _ => ⟨(fun _ h => by cases h), fun _ => ?_⟩⟩, (fun _ h => by cases h)⟩
 have hL1 := hL.sub hm1
 have lp : ∀ (b1 : Bool) (y : Int), 0 ≤ y → y < (n : Int) → p ≠ none ∧ HasI m1 p (((0 + (y * 30)) + 1) + 13) 1 ∧ ∃ (p2 : Option Addr) (n2 c2 : Nat), cellI m1 p (((0 + (y * 30)) + 1) + 13) = some (.slice p2 n2 c2) ∧ (n2 ≤ c2 ∧ c2 ≤ 9223372036854775807) := by
  intro b1 y h0 hlt
  obtain ⟨J, hJ, hat⟩ := hL1.at_ h0 hlt
  obtain ⟨⟨q1, q2⟩, hnm, hpl, _⟩ := hat
  obtain ⟨_, _, _, _, _, _, _, _, _, _, _, _, _, q, n2, c2, s1, s2, s3⟩ := hpl
  refine ⟨q1, ?_, q, n2, c2, cellI_to s1 (by omega), s2⟩
  have h1 := hasI_part q2 14 1 (by omega)
  rw [show ((0 + (y * 30)) + 1) + 13 = (0 + y * 30) + ((14 : Nat) : Int) by omega]
  exact h1
 refine ⟨fun _ => ⟨(fun _ h => by cases h), fun _ => ⟨fun _ => ⟨(fun _ h => by cases h), fun _ => ?_⟩, fun _ => ?_⟩⟩, fun _ => ⟨fun _ => ⟨(fun _ h => by cases h), fun _ => ?_⟩, fun _ => ?_⟩⟩
 all_goals
  refine ⟨fun b y => (0 ≤ y, ((n : Int) - y).toNat), ⟨by constructor <;> decide, Int.le_refl 0⟩, ?_⟩
  intro b1 y ky1 ky2 h0
  refine ⟨fun hlt => ⟨fun h8 => ?_, fun _ _ => by omega⟩, fun _ _ => by omega⟩
  obtain ⟨q1, q2, q, n2, c2, s1, s2⟩ := lp b1 y h0 hlt
  refine ⟨h0, q1, q2, q, n2, c2, s1, s2, (fun _ h => by cases h), fun _ => ⟨k64 (by omega) (by omega), ?_, ?_⟩⟩
  ·show 0 ≤ y + 1
   have : 0 ≤ y := h0
   omega
  ·show ((n : Int) - (y + 1)).toNat < ((n : Int) - y).toNat
   omega
theorem few_ok : SpOk Tryz.prog few :=
 con_ok (sps_of [fFew] ⟨fFew_ok, trivial⟩ rfl) (tab_ok _ [⟨(116, 4), [], [], [], []⟩]) 1000 few _ rfl rfl (Eq.mp (show few_VC = _ by kernel_rfl) few_vc)
end Go.Proofs.YtmpbddmbpeoehaaGreatDoor.Vc
