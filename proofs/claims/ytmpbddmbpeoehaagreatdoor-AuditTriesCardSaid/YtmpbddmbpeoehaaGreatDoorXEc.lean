/-
  Contracts, by their trees.
-/
import Derived.Test.YtmpbddmbpeoehaaGreatDoorXN
set_option linter.unusedVariables false
set_option linter.unusedSimpArgs false
set_option linter.unusedVariables false
set_option linter.unusedSimpArgs false
namespace Go.Proofs.YtmpbddmbpeoehaaGreatDoor.Vc
theorem flRow_get (k : Int) : ∀ (I : List Nat) (i j : Nat), I[i]? = some j → (flRow k I)[2 * i]? = some (.int .i64 k) ∧ (flRow k I)[2 * i + 1]? = some (.int .i64 (j : Int)) := by
  intro I
  induction I with
  | nil => intro i j h; simp at h
  | cons x I ih =>
    intro i j h
    cases i with
    | zero => simp at h; subst h; exact ⟨rfl, rfl⟩
    | succ i =>
      obtain ⟨h1, h2⟩ := ih i j (by simpa using h)
      rw [show 2 * (i + 1) = 2 * i + 1 + 1 by omega]
      exact ⟨h1, h2⟩
theorem idxs_lt : ∀ (B : List Bool) (k i : Nat), i ∈ idxs B k → i < k + B.length := by
  intro B
  induction B with
  | nil => intro k i h; cases h
  | cons b B ih =>
    intro k i h
    simp only [idxs] at h
    cases b with
    | true =>
      rcases List.mem_cons.1 h with h | h
      · simp only [List.length_cons]; omega
      · have := ih (k + 1) i h; simp only [List.length_cons]; omega
    | false => have := ih (k + 1) i h; simp only [List.length_cons]; omega
theorem auI_le {a b c d t u : Int} {L : List JobR} {l : List As.Ev} {f : List As.Ev → As.Ev → Bool} {i : Nat} (h : i ∈ auI a b c d t u L l f) : i < l.length := by
  unfold auI at h
  split at h
  · have := idxs_lt _ _ _ h
    rw [marks_len] at this; omega
  · cases h
def eqF_pre (p : Option Addr) (n c : Nat) (p1 : Option Addr) (n1 c1 : Nat) (m : Mem) : Prop := ∃ k I, K.i64 k ∧ n = I.length ∧ n1 = I.length ∧ RowM m p (flRow k I) ∧ RowM m p1 (flRow k I) ∧ ∀ i ∈ I, i ≤ 1000000
def eqF_post (p : Option Addr) (n c : Nat) (p1 : Option Addr) (n1 c1 : Nat) (m : Mem) (b : Bool) : Prop := b = true
def eqF : Sp := { args := [.sl, .sl], grp := [none, none], res := [.b], rgrp := [none], fn := 13, spec := fun a0 a1 a2 a3 a4 a5 => (eqF_pre a0 a1 a2 a3 a4 a5, eqF_post a0 a1 a2 a3 a4 a5) }
def eqF_VC : Prop := ∀ m : Mem, ∀ (p0 : Option Addr) (n0 c0 : Nat), n0 ≤ 9223372036854775807 → c0 ≤ 9223372036854775807 → ∀ (p1 : Option Addr) (n1 c1 : Nat), n1 ≤ 9223372036854775807 → c1 ≤ 9223372036854775807 → eqF_pre p0 n0 c0 p1 n1 c1 m →
 (((n0 : Int) ≠ (n1 : Int) →
 (eqF_post p0 n0 c0 p1 n1 c1 m false)) ∧
 ((n0 : Int) = (n1 : Int) →
 (∃ F1 : Bool → Int → Prop × Nat, ((K.i64 0) ∧ (F1 false 0).1) ∧
 ∀ b0 : Bool, ∀ x4 : Int, IntKind.i64.min ≤ x4 → x4 ≤ IntKind.i64.max → (F1 b0 x4).1 →
 ((x4 < (n0 : Int) →
 (0 ≤ x4 ∧ (p0 ≠ none ∧ (HasI m p0 (0 + (x4 * 2)) 2 ∧ (0 ≤ x4 ∧ (x4 < (n1 : Int) ∧ (p1 ≠ none ∧ (HasI m p1 (0 + (x4 * 2)) 2 ∧ (∃ x5 : Int, cellI m p0 (0 + (x4 * 2)) = some (Value.int IntKind.i64 x5) ∧ (K.i64 x5) ∧ (∃ x6 : Int, cellI m p1 (0 + (x4 * 2)) = some (Value.int IntKind.i64 x6) ∧ (K.i64 x6) ∧ (∃ x7 : Int, cellI m p0 ((0 + (x4 * 2)) + 1) = some (Value.int IntKind.i64 x7) ∧ (K.i64 x7) ∧ (∃ x8 : Int, cellI m p1 ((0 + (x4 * 2)) + 1) = some (Value.int IntKind.i64 x8) ∧ (K.i64 x8) ∧ (((x5 = x6 → x7 ≠ x8) →
 (eqF_post p0 n0 c0 p1 n1 c1 m false)) ∧
 ((x5 = x6 ∧ x7 = x8) →
 ((x4 + 1) ≤ 9223372036854775807 ∧ ((IntKind.i64.min ≤ (x4 + 1) ∧ (x4 + 1) ≤ IntKind.i64.max) ∧ ((F1 b0 (x4 + 1)).1 ∧ (F1 b0 (x4 + 1)).2 < (F1 b0 x4).2))))))))))))))))) ∧
 ((n0 : Int) ≤ x4 →
 (eqF_post p0 n0 c0 p1 n1 c1 m true))))))
set_option maxHeartbeats 4000000 in
theorem eqF_vc : eqF_VC := by
  intro m p n c hn hc p1 n1 c1 hn1 hc1 ⟨k, I, hk, e1, e2, h1, h2, hI⟩
  subst e1
  refine ⟨fun h => absurd (by omega) h, fun _ => ⟨fun b y => (∃ i : Nat, y = i ∧ i ≤ I.length, ((I.length : Int) - y).toNat), ⟨by constructor <;> decide, 0, rfl, by omega⟩, ?_⟩⟩
  rintro b y ky1 ky2 ⟨i, rfl, hi⟩
  refine ⟨fun hlt => ?_, fun _ => rfl⟩
  have hj : I[i]? = some (I[i]'(by omega)) := List.getElem?_eq_getElem _
  have hjm := hI _ (List.mem_of_getElem? hj)
  obtain ⟨g1, g2⟩ := flRow_get k I i _ hj
  have a1 := (h1.int g1 hk).to (b := 0 + (i : Int) * 2) (by omega)
  have a2 := (h1.int g2 (k64 (by omega) (by omega))).to (b := (0 + (i : Int) * 2) + 1) (by omega)
  have b1 := (h2.int g1 hk).to (b := 0 + (i : Int) * 2) (by omega)
  have b2 := (h2.int g2 (k64 (by omega) (by omega))).to (b := (0 + (i : Int) * 2) + 1) (by omega)
  have two : ∀ {q : Option Addr} {x y : Int}, IntAt m q (0 + (i : Int) * 2) x → IntAt m q ((0 + (i : Int) * 2) + 1) y → HasI m q (0 + (i : Int) * 2) 2 := by
    intro q x y u v
    refine (hasI_of (by omega) fun j hj => ?_).2
    rcases (by omega : j = 0 ∨ j = 1) with rfl | rfl
    · exact ⟨_, by simpa using u.1⟩
    · exact ⟨_, v.1⟩
  exact ⟨by omega, a1.ne, two a1 a2, by omega, by omega, b1.ne, two b1 b2, _, a1.1, a1.2, _, b1.1, b1.2, _, a2.1, a2.2, _, b2.1, b2.2, fun h => absurd rfl (h rfl), fun _ => ⟨by omega, k64 (by omega) (by omega), ⟨i + 1, by omega, by omega⟩, by first | omega | (simp only; omega)⟩⟩
theorem eqF_ok : SpOk Tryz.prog eqF :=
  con_ok (sps_of [] trivial rfl) (tab_ok _ [⟨(26, 4), [], [], [], []⟩]) 1000 eqF _ rfl rfl (Eq.mp (show eqF_VC = _ by kernel_rfl) eqF_vc)
end Go.Proofs.YtmpbddmbpeoehaaGreatDoor.Vc
