/-
  The document's text: one item.
-/
import Derived.Test.YtjnlgaeedcklaaaGreatDoorFRef2
set_option linter.unusedVariables false
set_option linter.unusedSimpArgs false
namespace Go.Proofs.YtjnlgaeedcklaaaGreatDoor
open Go.RowKit

def pn : Fs.Part → Int
  | some (n, _) => n
  | none => -1
def pa : Fs.Part → Int
  | some (_, a) => a
  | none => 0
/-- An item of the document's text. -/
def cellsR (x : Fs.Item) : List Value := [.bool x.star, .int .i64 (pn x.lo), .int .i64 (pn x.hi), .int .i64 (pn x.step), .int .i64 x.at_, .int .i64 (pa x.hi), .int .i64 (pa x.step)]
def encR (x : Fs.Item) : Value := .agg (cellsR x).toArray

theorem byte_cases (s : ByteArray) (k : Nat) (c : UInt8) (hk : k ≤ s.size) :
    (Fs.byteAt s.data.toList k c = true ∧ ∃ h : k < s.size, ((s[k].toNat : Int) == (c.toNat : Int)) = true) ∨
    (Fs.byteAt s.data.toList k c = false ∧ ∃ h : k < s.size, ((s[k].toNat : Int) == (c.toNat : Int)) = false) ∨
    (Fs.byteAt s.data.toList k c = false ∧ ¬ k < s.size ∧ k = s.size) := by
  by_cases h : k < s.size
  · have hg := getElem_data s k h
    by_cases hc : s[k] = c
    · exact .inl ⟨by rw [Fs.byteAt, hg, hc]; simp, h, by rw [hc]; simp⟩
    · refine .inr (.inl ⟨by rw [Fs.byteAt, hg]; simpa using hc, h, ?_⟩)
      rw [beq_eq_false_iff_ne]
      intro e
      exact hc (UInt8.toNat_inj.1 (by omega))
  · refine .inr (.inr ⟨?_, h, by omega⟩)
    rw [Fs.byteAt, List.getElem?_eq_none (by rw [← Lib.size_eq]; omega)]
    rfl

theorem numAt_le {l : List UInt8} {k n e : Nat} (h : Fs.numAt l k = some (n, e)) (hk : k ≤ l.length) : e ≤ l.length ∧ k < e := by
  unfold Fs.numAt at h
  simp only at h
  split at h
  · cases h
  · rename_i h0
    simp only [Option.some.injEq, Prod.mk.injEq] at h
    have := span_le Fs.digitB 2 (l.drop k)
    rw [List.length_drop] at this
    omega
theorem valAt_le {kd : Fs.Kind} {l : List UInt8} {k n e : Nat} (h : Fs.valAt kd l k = some (n, e)) (hk : k ≤ l.length) : e ≤ l.length ∧ k < e := by
  unfold Fs.valAt at h
  simp only at h
  split at h
  · exact numAt_le h hk
  · rename_i h0
    rw [Option.map_eq_some_iff] at h
    obtain ⟨i, _, h⟩ := h
    simp only [Prod.mk.injEq] at h
    have := span_le Fs.letterB l.length (l.drop k)
    rw [List.length_drop] at this
    omega

set_option maxRecDepth 100000 in
set_option maxHeartbeats 1000000 in
theorem one_leaf0 (s : ByteArray) (k m1 b m2 b2 m3 e3 : Nat) (w : World) (lo hi : Int) (A : Option Addr) (c : Nat) (l : List ByteArray) (week : Bool) (hs : s.size ≤ 100000) (hk : k ≤ s.size) (HA : Hid (Names w w.heap.size A l))
    (hpA : k < s.size)
    (hbA : ((s[k].toNat : Int) == 42) = true)
    (hpS : k + 1 < s.size)
    (hbS : ((s[k + 1].toNat : Int) == 47) = true)
    (V3 : Hid (∀ (W : World), Calls Tryz.prog 145 #[.string s, .int .i64 (((k : Int) + 1) + 1)] W fun en w' => en = .returned (.tuple #[.int .i64 0, .int .i64 (k + 1 + 1 : Nat), .bool false]) ∧ W = w')) :
    Calls Tryz.prog 117 #[.agg #[.int .i64 lo, .int .i64 hi, .slice A l.length c, .bool week], .string s, .int .i64 k] w fun e w' => e = .returned (.tuple #[.agg #[.bool true, .int .i64 (-1), .int .i64 (-1), .int .i64 0, .int .i64 k, .int .i64 0, .int .i64 (k + 1 + 1 : Nat)], .int .i64 (k + 1 + 1 : Nat), .bool false]) ∧ Below w.heap.size w w' := by
  go_enter Tryz.func117, Tryz.ntmps117
  go_wp2_with (first
    | (go_at_call 145; ((with_reducible refine (V3.out _).mono ?_)); rintro e w3 ⟨rfl, rfl⟩))
  refine bodyPost_ret (v := .tuple #[.agg #[.bool true, .int .i64 (-1), .int .i64 (-1), .int .i64 0, .int .i64 k, .int .i64 0, .int .i64 (k + 1 + 1 : Nat)], .int .i64 (k + 1 + 1 : Nat), .bool false]) (by simp [results, Tryz.results117, go_sem]) rfl ⟨rfl, ?_⟩
  repeat (first | (with_reducible exact ((((Below.refl _ _).alloc (Nat.le_refl _) _).alloc (by simp) _).alloc (by first | (simp; done) | (simp; omega)) _)) | (refine Below.setCell ?_ (by first | (simp; done) | (simp; omega)) _))

set_option maxRecDepth 100000 in
set_option maxHeartbeats 1000000 in
theorem one_leaf1 (s : ByteArray) (k m1 b m2 b2 m3 e3 : Nat) (w : World) (lo hi : Int) (A : Option Addr) (c : Nat) (l : List ByteArray) (week : Bool) (hs : s.size ≤ 100000) (hk : k ≤ s.size) (HA : Hid (Names w w.heap.size A l))
    (hpA : k < s.size)
    (hbA : ((s[k].toNat : Int) == 42) = true)
    (hpS : k + 1 < s.size)
    (hbS : ((s[k + 1].toNat : Int) == 47) = true)
    (V3 : Hid (∀ (W : World), Calls Tryz.prog 145 #[.string s, .int .i64 (((k : Int) + 1) + 1)] W fun en w' => en = .returned (.tuple #[.int .i64 m3, .int .i64 e3, .bool true]) ∧ W = w')) :
    Calls Tryz.prog 117 #[.agg #[.int .i64 lo, .int .i64 hi, .slice A l.length c, .bool week], .string s, .int .i64 k] w fun e w' => e = .returned (.tuple #[.agg #[.bool true, .int .i64 (-1), .int .i64 (-1), .int .i64 m3, .int .i64 k, .int .i64 0, .int .i64 (k + 1 + 1 : Nat)], .int .i64 e3, .bool true]) ∧ Below w.heap.size w w' := by
  go_enter Tryz.func117, Tryz.ntmps117
  go_wp2_with (first
    | (go_at_call 145; ((with_reducible refine (V3.out _).mono ?_)); rintro e w3 ⟨rfl, rfl⟩))
  refine bodyPost_ret (v := .tuple #[.agg #[.bool true, .int .i64 (-1), .int .i64 (-1), .int .i64 m3, .int .i64 k, .int .i64 0, .int .i64 (k + 1 + 1 : Nat)], .int .i64 e3, .bool true]) (by simp [results, Tryz.results117, go_sem]) rfl ⟨rfl, ?_⟩
  repeat (first | (with_reducible exact ((((Below.refl _ _).alloc (Nat.le_refl _) _).alloc (by simp) _).alloc (by first | (simp; done) | (simp; omega)) _)) | (refine Below.setCell ?_ (by first | (simp; done) | (simp; omega)) _))

set_option maxRecDepth 100000 in
set_option maxHeartbeats 1000000 in
theorem one_leaf2 (s : ByteArray) (k m1 b m2 b2 m3 e3 : Nat) (w : World) (lo hi : Int) (A : Option Addr) (c : Nat) (l : List ByteArray) (week : Bool) (hs : s.size ≤ 100000) (hk : k ≤ s.size) (HA : Hid (Names w w.heap.size A l))
    (hpA : k < s.size)
    (hbA : ((s[k].toNat : Int) == 42) = true)
    (hpS : k + 1 < s.size)
    (hbS : ((s[k + 1].toNat : Int) == 47) = false) :
    Calls Tryz.prog 117 #[.agg #[.int .i64 lo, .int .i64 hi, .slice A l.length c, .bool week], .string s, .int .i64 k] w fun e w' => e = .returned (.tuple #[.agg #[.bool true, .int .i64 (-1), .int .i64 (-1), .int .i64 (-1), .int .i64 k, .int .i64 0, .int .i64 0], .int .i64 (k + 1 : Nat), .bool true]) ∧ Below w.heap.size w w' := by
  go_enter Tryz.func117, Tryz.ntmps117
  go_wp2_with fail
  refine bodyPost_ret (v := .tuple #[.agg #[.bool true, .int .i64 (-1), .int .i64 (-1), .int .i64 (-1), .int .i64 k, .int .i64 0, .int .i64 0], .int .i64 (k + 1 : Nat), .bool true]) (by simp [results, Tryz.results117, go_sem]) rfl ⟨rfl, ?_⟩
  repeat (first | (with_reducible exact ((((Below.refl _ _).alloc (Nat.le_refl _) _).alloc (by simp) _).alloc (by first | (simp; done) | (simp; omega)) _)) | (refine Below.setCell ?_ (by first | (simp; done) | (simp; omega)) _))

set_option maxRecDepth 100000 in
set_option maxHeartbeats 1000000 in
theorem one_leaf3 (s : ByteArray) (k m1 b m2 b2 m3 e3 : Nat) (w : World) (lo hi : Int) (A : Option Addr) (c : Nat) (l : List ByteArray) (week : Bool) (hs : s.size ≤ 100000) (hk : k ≤ s.size) (HA : Hid (Names w w.heap.size A l))
    (hpA : k < s.size)
    (hbA : ((s[k].toNat : Int) == 42) = true)
    (hpS : ¬ k + 1 < s.size) :
    Calls Tryz.prog 117 #[.agg #[.int .i64 lo, .int .i64 hi, .slice A l.length c, .bool week], .string s, .int .i64 k] w fun e w' => e = .returned (.tuple #[.agg #[.bool true, .int .i64 (-1), .int .i64 (-1), .int .i64 (-1), .int .i64 k, .int .i64 0, .int .i64 0], .int .i64 (k + 1 : Nat), .bool true]) ∧ Below w.heap.size w w' := by
  go_enter Tryz.func117, Tryz.ntmps117
  go_wp2_with fail
  refine bodyPost_ret (v := .tuple #[.agg #[.bool true, .int .i64 (-1), .int .i64 (-1), .int .i64 (-1), .int .i64 k, .int .i64 0, .int .i64 0], .int .i64 (k + 1 : Nat), .bool true]) (by simp [results, Tryz.results117, go_sem]) rfl ⟨rfl, ?_⟩
  repeat (first | (with_reducible exact ((((Below.refl _ _).alloc (Nat.le_refl _) _).alloc (by simp) _).alloc (by first | (simp; done) | (simp; omega)) _)) | (refine Below.setCell ?_ (by first | (simp; done) | (simp; omega)) _))

set_option maxRecDepth 100000 in
set_option maxHeartbeats 1000000 in
theorem one_leaf4 (s : ByteArray) (k m1 b m2 b2 m3 e3 : Nat) (w : World) (lo hi : Int) (A : Option Addr) (c : Nat) (l : List ByteArray) (week : Bool) (hs : s.size ≤ 100000) (hk : k ≤ s.size) (HA : Hid (Names w w.heap.size A l))
    (hpA : k < s.size)
    (hbA : ((s[k].toNat : Int) == 42) = false)
    (V1 : Hid (∀ (W : World), Names W W.heap.size A l → Calls Tryz.prog 144 #[.agg #[.int .i64 lo, .int .i64 hi, .slice A l.length c, .bool week], .string s, .int .i64 k] W fun en w' => en = .returned (.tuple #[.int .i64 0, .int .i64 k, .bool false]) ∧ Below W.heap.size W w')) :
    Calls Tryz.prog 117 #[.agg #[.int .i64 lo, .int .i64 hi, .slice A l.length c, .bool week], .string s, .int .i64 k] w fun e w' => e = .returned (.tuple #[.agg #[.bool false, .int .i64 0, .int .i64 (-1), .int .i64 (-1), .int .i64 k, .int .i64 0, .int .i64 0], .int .i64 k, .bool false]) ∧ Below w.heap.size w w' := by
  go_enter Tryz.func117, Tryz.ntmps117
  go_wp2_with (first
    | (go_at_call 144; ((with_reducible refine (V1.out _ ?_).mono ?_)); exact (HA.out.below ((((Below.refl _ _).alloc (Nat.le_refl _) _).alloc (by simp) _).alloc (by first | (simp; done) | (simp; omega)) _) (by simp; omega)); rintro e w1 ⟨rfl, hb1⟩; obtain ⟨hc1, hf1⟩ := bcell hb1; have hbw1 : Below w.heap.size w w1 := ((((Below.refl _ _).alloc (Nat.le_refl _) _).alloc (by simp) _).alloc (by first | (simp; done) | (simp; omega)) _).trans (hb1.mono (by simp; omega)); have hz1 : w.heap.size + 1 + 1 < w1.heap.size := (by have := hb1.size; simp at this; omega); have hy1 : w.heap.size + 1 < w1.heap.size := (by omega); have hx1 : w.heap.size < w1.heap.size := (by omega)))
  refine bodyPost_ret (v := .tuple #[.agg #[.bool false, .int .i64 0, .int .i64 (-1), .int .i64 (-1), .int .i64 k, .int .i64 0, .int .i64 0], .int .i64 k, .bool false]) (by simp [results, Tryz.results117, go_sem, hc1, hf1, hz1, hy1, hx1]) rfl ⟨rfl, ?_⟩
  repeat (first | (with_reducible exact hbw1) | (refine Below.setCell ?_ (by first | (simp; done) | (simp; omega)) _))

set_option maxRecDepth 100000 in
set_option maxHeartbeats 1000000 in
theorem one_leaf5 (s : ByteArray) (k m1 b m2 b2 m3 e3 : Nat) (w : World) (lo hi : Int) (A : Option Addr) (c : Nat) (l : List ByteArray) (week : Bool) (hs : s.size ≤ 100000) (hk : k ≤ s.size) (HA : Hid (Names w w.heap.size A l))
    (hpA : k < s.size)
    (hbA : ((s[k].toNat : Int) == 42) = false)
    (hpB : b < s.size)
    (hbB : ((s[b].toNat : Int) == 45) = true)
    (V1 : Hid (∀ (W : World), Names W W.heap.size A l → Calls Tryz.prog 144 #[.agg #[.int .i64 lo, .int .i64 hi, .slice A l.length c, .bool week], .string s, .int .i64 k] W fun en w' => en = .returned (.tuple #[.int .i64 m1, .int .i64 b, .bool true]) ∧ Below W.heap.size W w'))
    (V2 : Hid (∀ (W : World), Names W W.heap.size A l → Calls Tryz.prog 144 #[.agg #[.int .i64 lo, .int .i64 hi, .slice A l.length c, .bool week], .string s, .int .i64 ((b : Int) + 1)] W fun en w' => en = .returned (.tuple #[.int .i64 0, .int .i64 (b + 1 : Nat), .bool false]) ∧ Below W.heap.size W w')) :
    Calls Tryz.prog 117 #[.agg #[.int .i64 lo, .int .i64 hi, .slice A l.length c, .bool week], .string s, .int .i64 k] w fun e w' => e = .returned (.tuple #[.agg #[.bool false, .int .i64 m1, .int .i64 0, .int .i64 (-1), .int .i64 k, .int .i64 (b + 1 : Nat), .int .i64 0], .int .i64 (b + 1 : Nat), .bool false]) ∧ Below w.heap.size w w' := by
  go_enter Tryz.func117, Tryz.ntmps117
  go_wp2_with (first
    | (go_at_call 144; ((with_reducible refine (V1.out _ ?_).mono ?_)); exact (HA.out.below ((((Below.refl _ _).alloc (Nat.le_refl _) _).alloc (by simp) _).alloc (by first | (simp; done) | (simp; omega)) _) (by simp; omega)); rintro e w1 ⟨rfl, hb1⟩; obtain ⟨hc1, hf1⟩ := bcell hb1; have hbw1 : Below w.heap.size w w1 := ((((Below.refl _ _).alloc (Nat.le_refl _) _).alloc (by simp) _).alloc (by first | (simp; done) | (simp; omega)) _).trans (hb1.mono (by simp; omega)); have hz1 : w.heap.size + 1 + 1 < w1.heap.size := (by have := hb1.size; simp at this; omega); have hy1 : w.heap.size + 1 < w1.heap.size := (by omega); have hx1 : w.heap.size < w1.heap.size := (by omega))
    | (go_at_call 144; ((with_reducible refine (V2.out _ ?_).mono ?_)); exact (HA.out.below ((hbw1.setCell (by first | (simp; done) | (simp; omega)) _).setCell (by first | (simp; done) | (simp; omega)) _) (by simp; omega)); rintro e w2 ⟨rfl, hb2⟩; obtain ⟨hc2, hf2⟩ := bcell hb2; have hbw2 : Below w.heap.size w w2 := ((hbw1.setCell (by first | (simp; done) | (simp; omega)) _).setCell (by first | (simp; done) | (simp; omega)) _).trans (hb2.mono (by simp; omega)); have hz2 : w.heap.size + 1 + 1 < w2.heap.size := (by have := hb2.size; simp at this; omega); have hy2 : w.heap.size + 1 < w2.heap.size := (by omega); have hx2 : w.heap.size < w2.heap.size := (by omega)))
  refine bodyPost_ret (v := .tuple #[.agg #[.bool false, .int .i64 m1, .int .i64 0, .int .i64 (-1), .int .i64 k, .int .i64 (b + 1 : Nat), .int .i64 0], .int .i64 (b + 1 : Nat), .bool false]) (by simp [results, Tryz.results117, go_sem, hc1, hf1, hz1, hy1, hx1, hc2, hf2, hz2, hy2, hx2]) rfl ⟨rfl, ?_⟩
  repeat (first | (with_reducible exact hbw2) | (refine Below.setCell ?_ (by first | (simp; done) | (simp; omega)) _))

set_option maxRecDepth 100000 in
set_option maxHeartbeats 1000000 in
theorem one_leaf6 (s : ByteArray) (k m1 b m2 b2 m3 e3 : Nat) (w : World) (lo hi : Int) (A : Option Addr) (c : Nat) (l : List ByteArray) (week : Bool) (hs : s.size ≤ 100000) (hk : k ≤ s.size) (HA : Hid (Names w w.heap.size A l))
    (hpA : k < s.size)
    (hbA : ((s[k].toNat : Int) == 42) = false)
    (hpB : b < s.size)
    (hbB : ((s[b].toNat : Int) == 45) = true)
    (hpS : b2 < s.size)
    (hbS : ((s[b2].toNat : Int) == 47) = true)
    (V1 : Hid (∀ (W : World), Names W W.heap.size A l → Calls Tryz.prog 144 #[.agg #[.int .i64 lo, .int .i64 hi, .slice A l.length c, .bool week], .string s, .int .i64 k] W fun en w' => en = .returned (.tuple #[.int .i64 m1, .int .i64 b, .bool true]) ∧ Below W.heap.size W w'))
    (V2 : Hid (∀ (W : World), Names W W.heap.size A l → Calls Tryz.prog 144 #[.agg #[.int .i64 lo, .int .i64 hi, .slice A l.length c, .bool week], .string s, .int .i64 ((b : Int) + 1)] W fun en w' => en = .returned (.tuple #[.int .i64 m2, .int .i64 b2, .bool true]) ∧ Below W.heap.size W w'))
    (V3 : Hid (∀ (W : World), Calls Tryz.prog 145 #[.string s, .int .i64 ((b2 : Int) + 1)] W fun en w' => en = .returned (.tuple #[.int .i64 0, .int .i64 (b2 + 1 : Nat), .bool false]) ∧ W = w')) :
    Calls Tryz.prog 117 #[.agg #[.int .i64 lo, .int .i64 hi, .slice A l.length c, .bool week], .string s, .int .i64 k] w fun e w' => e = .returned (.tuple #[.agg #[.bool false, .int .i64 m1, .int .i64 m2, .int .i64 0, .int .i64 k, .int .i64 (b + 1 : Nat), .int .i64 (b2 + 1 : Nat)], .int .i64 (b2 + 1 : Nat), .bool false]) ∧ Below w.heap.size w w' := by
  go_enter Tryz.func117, Tryz.ntmps117
  go_wp2_with (first
    | (go_at_call 144; ((with_reducible refine (V1.out _ ?_).mono ?_)); exact (HA.out.below ((((Below.refl _ _).alloc (Nat.le_refl _) _).alloc (by simp) _).alloc (by first | (simp; done) | (simp; omega)) _) (by simp; omega)); rintro e w1 ⟨rfl, hb1⟩; obtain ⟨hc1, hf1⟩ := bcell hb1; have hbw1 : Below w.heap.size w w1 := ((((Below.refl _ _).alloc (Nat.le_refl _) _).alloc (by simp) _).alloc (by first | (simp; done) | (simp; omega)) _).trans (hb1.mono (by simp; omega)); have hz1 : w.heap.size + 1 + 1 < w1.heap.size := (by have := hb1.size; simp at this; omega); have hy1 : w.heap.size + 1 < w1.heap.size := (by omega); have hx1 : w.heap.size < w1.heap.size := (by omega))
    | (go_at_call 144; ((with_reducible refine (V2.out _ ?_).mono ?_)); exact (HA.out.below ((hbw1.setCell (by first | (simp; done) | (simp; omega)) _).setCell (by first | (simp; done) | (simp; omega)) _) (by simp; omega)); rintro e w2 ⟨rfl, hb2⟩; obtain ⟨hc2, hf2⟩ := bcell hb2; have hbw2 : Below w.heap.size w w2 := ((hbw1.setCell (by first | (simp; done) | (simp; omega)) _).setCell (by first | (simp; done) | (simp; omega)) _).trans (hb2.mono (by simp; omega)); have hz2 : w.heap.size + 1 + 1 < w2.heap.size := (by have := hb2.size; simp at this; omega); have hy2 : w.heap.size + 1 < w2.heap.size := (by omega); have hx2 : w.heap.size < w2.heap.size := (by omega))
    | (go_at_call 145; ((with_reducible refine (V3.out _).mono ?_)); rintro e w3 ⟨rfl, rfl⟩))
  refine bodyPost_ret (v := .tuple #[.agg #[.bool false, .int .i64 m1, .int .i64 m2, .int .i64 0, .int .i64 k, .int .i64 (b + 1 : Nat), .int .i64 (b2 + 1 : Nat)], .int .i64 (b2 + 1 : Nat), .bool false]) (by simp [results, Tryz.results117, go_sem, hc1, hf1, hz1, hy1, hx1, hc2, hf2, hz2, hy2, hx2]) rfl ⟨rfl, ?_⟩
  repeat (first | (with_reducible exact hbw2) | (refine Below.setCell ?_ (by first | (simp; done) | (simp; omega)) _))

set_option maxRecDepth 100000 in
set_option maxHeartbeats 1000000 in
theorem one_leaf7 (s : ByteArray) (k m1 b m2 b2 m3 e3 : Nat) (w : World) (lo hi : Int) (A : Option Addr) (c : Nat) (l : List ByteArray) (week : Bool) (hs : s.size ≤ 100000) (hk : k ≤ s.size) (HA : Hid (Names w w.heap.size A l))
    (hpA : k < s.size)
    (hbA : ((s[k].toNat : Int) == 42) = false)
    (hpB : b < s.size)
    (hbB : ((s[b].toNat : Int) == 45) = true)
    (hpS : b2 < s.size)
    (hbS : ((s[b2].toNat : Int) == 47) = true)
    (V1 : Hid (∀ (W : World), Names W W.heap.size A l → Calls Tryz.prog 144 #[.agg #[.int .i64 lo, .int .i64 hi, .slice A l.length c, .bool week], .string s, .int .i64 k] W fun en w' => en = .returned (.tuple #[.int .i64 m1, .int .i64 b, .bool true]) ∧ Below W.heap.size W w'))
    (V2 : Hid (∀ (W : World), Names W W.heap.size A l → Calls Tryz.prog 144 #[.agg #[.int .i64 lo, .int .i64 hi, .slice A l.length c, .bool week], .string s, .int .i64 ((b : Int) + 1)] W fun en w' => en = .returned (.tuple #[.int .i64 m2, .int .i64 b2, .bool true]) ∧ Below W.heap.size W w'))
    (V3 : Hid (∀ (W : World), Calls Tryz.prog 145 #[.string s, .int .i64 ((b2 : Int) + 1)] W fun en w' => en = .returned (.tuple #[.int .i64 m3, .int .i64 e3, .bool true]) ∧ W = w')) :
    Calls Tryz.prog 117 #[.agg #[.int .i64 lo, .int .i64 hi, .slice A l.length c, .bool week], .string s, .int .i64 k] w fun e w' => e = .returned (.tuple #[.agg #[.bool false, .int .i64 m1, .int .i64 m2, .int .i64 m3, .int .i64 k, .int .i64 (b + 1 : Nat), .int .i64 (b2 + 1 : Nat)], .int .i64 e3, .bool true]) ∧ Below w.heap.size w w' := by
  go_enter Tryz.func117, Tryz.ntmps117
  go_wp2_with (first
    | (go_at_call 144; ((with_reducible refine (V1.out _ ?_).mono ?_)); exact (HA.out.below ((((Below.refl _ _).alloc (Nat.le_refl _) _).alloc (by simp) _).alloc (by first | (simp; done) | (simp; omega)) _) (by simp; omega)); rintro e w1 ⟨rfl, hb1⟩; obtain ⟨hc1, hf1⟩ := bcell hb1; have hbw1 : Below w.heap.size w w1 := ((((Below.refl _ _).alloc (Nat.le_refl _) _).alloc (by simp) _).alloc (by first | (simp; done) | (simp; omega)) _).trans (hb1.mono (by simp; omega)); have hz1 : w.heap.size + 1 + 1 < w1.heap.size := (by have := hb1.size; simp at this; omega); have hy1 : w.heap.size + 1 < w1.heap.size := (by omega); have hx1 : w.heap.size < w1.heap.size := (by omega))
    | (go_at_call 144; ((with_reducible refine (V2.out _ ?_).mono ?_)); exact (HA.out.below ((hbw1.setCell (by first | (simp; done) | (simp; omega)) _).setCell (by first | (simp; done) | (simp; omega)) _) (by simp; omega)); rintro e w2 ⟨rfl, hb2⟩; obtain ⟨hc2, hf2⟩ := bcell hb2; have hbw2 : Below w.heap.size w w2 := ((hbw1.setCell (by first | (simp; done) | (simp; omega)) _).setCell (by first | (simp; done) | (simp; omega)) _).trans (hb2.mono (by simp; omega)); have hz2 : w.heap.size + 1 + 1 < w2.heap.size := (by have := hb2.size; simp at this; omega); have hy2 : w.heap.size + 1 < w2.heap.size := (by omega); have hx2 : w.heap.size < w2.heap.size := (by omega))
    | (go_at_call 145; ((with_reducible refine (V3.out _).mono ?_)); rintro e w3 ⟨rfl, rfl⟩))
  refine bodyPost_ret (v := .tuple #[.agg #[.bool false, .int .i64 m1, .int .i64 m2, .int .i64 m3, .int .i64 k, .int .i64 (b + 1 : Nat), .int .i64 (b2 + 1 : Nat)], .int .i64 e3, .bool true]) (by simp [results, Tryz.results117, go_sem, hc1, hf1, hz1, hy1, hx1, hc2, hf2, hz2, hy2, hx2]) rfl ⟨rfl, ?_⟩
  repeat (first | (with_reducible exact hbw2) | (refine Below.setCell ?_ (by first | (simp; done) | (simp; omega)) _))

set_option maxRecDepth 100000 in
set_option maxHeartbeats 1000000 in
theorem one_leaf8 (s : ByteArray) (k m1 b m2 b2 m3 e3 : Nat) (w : World) (lo hi : Int) (A : Option Addr) (c : Nat) (l : List ByteArray) (week : Bool) (hs : s.size ≤ 100000) (hk : k ≤ s.size) (HA : Hid (Names w w.heap.size A l))
    (hpA : k < s.size)
    (hbA : ((s[k].toNat : Int) == 42) = false)
    (hpB : b < s.size)
    (hbB : ((s[b].toNat : Int) == 45) = true)
    (hpS : b2 < s.size)
    (hbS : ((s[b2].toNat : Int) == 47) = false)
    (V1 : Hid (∀ (W : World), Names W W.heap.size A l → Calls Tryz.prog 144 #[.agg #[.int .i64 lo, .int .i64 hi, .slice A l.length c, .bool week], .string s, .int .i64 k] W fun en w' => en = .returned (.tuple #[.int .i64 m1, .int .i64 b, .bool true]) ∧ Below W.heap.size W w'))
    (V2 : Hid (∀ (W : World), Names W W.heap.size A l → Calls Tryz.prog 144 #[.agg #[.int .i64 lo, .int .i64 hi, .slice A l.length c, .bool week], .string s, .int .i64 ((b : Int) + 1)] W fun en w' => en = .returned (.tuple #[.int .i64 m2, .int .i64 b2, .bool true]) ∧ Below W.heap.size W w')) :
    Calls Tryz.prog 117 #[.agg #[.int .i64 lo, .int .i64 hi, .slice A l.length c, .bool week], .string s, .int .i64 k] w fun e w' => e = .returned (.tuple #[.agg #[.bool false, .int .i64 m1, .int .i64 m2, .int .i64 (-1), .int .i64 k, .int .i64 (b + 1 : Nat), .int .i64 0], .int .i64 (b2 : Nat), .bool true]) ∧ Below w.heap.size w w' := by
  go_enter Tryz.func117, Tryz.ntmps117
  go_wp2_with (first
    | (go_at_call 144; ((with_reducible refine (V1.out _ ?_).mono ?_)); exact (HA.out.below ((((Below.refl _ _).alloc (Nat.le_refl _) _).alloc (by simp) _).alloc (by first | (simp; done) | (simp; omega)) _) (by simp; omega)); rintro e w1 ⟨rfl, hb1⟩; obtain ⟨hc1, hf1⟩ := bcell hb1; have hbw1 : Below w.heap.size w w1 := ((((Below.refl _ _).alloc (Nat.le_refl _) _).alloc (by simp) _).alloc (by first | (simp; done) | (simp; omega)) _).trans (hb1.mono (by simp; omega)); have hz1 : w.heap.size + 1 + 1 < w1.heap.size := (by have := hb1.size; simp at this; omega); have hy1 : w.heap.size + 1 < w1.heap.size := (by omega); have hx1 : w.heap.size < w1.heap.size := (by omega))
    | (go_at_call 144; ((with_reducible refine (V2.out _ ?_).mono ?_)); exact (HA.out.below ((hbw1.setCell (by first | (simp; done) | (simp; omega)) _).setCell (by first | (simp; done) | (simp; omega)) _) (by simp; omega)); rintro e w2 ⟨rfl, hb2⟩; obtain ⟨hc2, hf2⟩ := bcell hb2; have hbw2 : Below w.heap.size w w2 := ((hbw1.setCell (by first | (simp; done) | (simp; omega)) _).setCell (by first | (simp; done) | (simp; omega)) _).trans (hb2.mono (by simp; omega)); have hz2 : w.heap.size + 1 + 1 < w2.heap.size := (by have := hb2.size; simp at this; omega); have hy2 : w.heap.size + 1 < w2.heap.size := (by omega); have hx2 : w.heap.size < w2.heap.size := (by omega)))
  refine bodyPost_ret (v := .tuple #[.agg #[.bool false, .int .i64 m1, .int .i64 m2, .int .i64 (-1), .int .i64 k, .int .i64 (b + 1 : Nat), .int .i64 0], .int .i64 (b2 : Nat), .bool true]) (by simp [results, Tryz.results117, go_sem, hc1, hf1, hz1, hy1, hx1, hc2, hf2, hz2, hy2, hx2]) rfl ⟨rfl, ?_⟩
  repeat (first | (with_reducible exact hbw2) | (refine Below.setCell ?_ (by first | (simp; done) | (simp; omega)) _))

set_option maxRecDepth 100000 in
set_option maxHeartbeats 1000000 in
theorem one_leaf9 (s : ByteArray) (k m1 b m2 b2 m3 e3 : Nat) (w : World) (lo hi : Int) (A : Option Addr) (c : Nat) (l : List ByteArray) (week : Bool) (hs : s.size ≤ 100000) (hk : k ≤ s.size) (HA : Hid (Names w w.heap.size A l))
    (hpA : k < s.size)
    (hbA : ((s[k].toNat : Int) == 42) = false)
    (hpB : b < s.size)
    (hbB : ((s[b].toNat : Int) == 45) = true)
    (hpS : ¬ b2 < s.size)
    (V1 : Hid (∀ (W : World), Names W W.heap.size A l → Calls Tryz.prog 144 #[.agg #[.int .i64 lo, .int .i64 hi, .slice A l.length c, .bool week], .string s, .int .i64 k] W fun en w' => en = .returned (.tuple #[.int .i64 m1, .int .i64 b, .bool true]) ∧ Below W.heap.size W w'))
    (V2 : Hid (∀ (W : World), Names W W.heap.size A l → Calls Tryz.prog 144 #[.agg #[.int .i64 lo, .int .i64 hi, .slice A l.length c, .bool week], .string s, .int .i64 ((b : Int) + 1)] W fun en w' => en = .returned (.tuple #[.int .i64 m2, .int .i64 b2, .bool true]) ∧ Below W.heap.size W w')) :
    Calls Tryz.prog 117 #[.agg #[.int .i64 lo, .int .i64 hi, .slice A l.length c, .bool week], .string s, .int .i64 k] w fun e w' => e = .returned (.tuple #[.agg #[.bool false, .int .i64 m1, .int .i64 m2, .int .i64 (-1), .int .i64 k, .int .i64 (b + 1 : Nat), .int .i64 0], .int .i64 (b2 : Nat), .bool true]) ∧ Below w.heap.size w w' := by
  go_enter Tryz.func117, Tryz.ntmps117
  go_wp2_with (first
    | (go_at_call 144; ((with_reducible refine (V1.out _ ?_).mono ?_)); exact (HA.out.below ((((Below.refl _ _).alloc (Nat.le_refl _) _).alloc (by simp) _).alloc (by first | (simp; done) | (simp; omega)) _) (by simp; omega)); rintro e w1 ⟨rfl, hb1⟩; obtain ⟨hc1, hf1⟩ := bcell hb1; have hbw1 : Below w.heap.size w w1 := ((((Below.refl _ _).alloc (Nat.le_refl _) _).alloc (by simp) _).alloc (by first | (simp; done) | (simp; omega)) _).trans (hb1.mono (by simp; omega)); have hz1 : w.heap.size + 1 + 1 < w1.heap.size := (by have := hb1.size; simp at this; omega); have hy1 : w.heap.size + 1 < w1.heap.size := (by omega); have hx1 : w.heap.size < w1.heap.size := (by omega))
    | (go_at_call 144; ((with_reducible refine (V2.out _ ?_).mono ?_)); exact (HA.out.below ((hbw1.setCell (by first | (simp; done) | (simp; omega)) _).setCell (by first | (simp; done) | (simp; omega)) _) (by simp; omega)); rintro e w2 ⟨rfl, hb2⟩; obtain ⟨hc2, hf2⟩ := bcell hb2; have hbw2 : Below w.heap.size w w2 := ((hbw1.setCell (by first | (simp; done) | (simp; omega)) _).setCell (by first | (simp; done) | (simp; omega)) _).trans (hb2.mono (by simp; omega)); have hz2 : w.heap.size + 1 + 1 < w2.heap.size := (by have := hb2.size; simp at this; omega); have hy2 : w.heap.size + 1 < w2.heap.size := (by omega); have hx2 : w.heap.size < w2.heap.size := (by omega)))
  refine bodyPost_ret (v := .tuple #[.agg #[.bool false, .int .i64 m1, .int .i64 m2, .int .i64 (-1), .int .i64 k, .int .i64 (b + 1 : Nat), .int .i64 0], .int .i64 (b2 : Nat), .bool true]) (by simp [results, Tryz.results117, go_sem, hc1, hf1, hz1, hy1, hx1, hc2, hf2, hz2, hy2, hx2]) rfl ⟨rfl, ?_⟩
  repeat (first | (with_reducible exact hbw2) | (refine Below.setCell ?_ (by first | (simp; done) | (simp; omega)) _))

set_option maxRecDepth 100000 in
set_option maxHeartbeats 1000000 in
theorem one_leaf10 (s : ByteArray) (k m1 b m2 b2 m3 e3 : Nat) (w : World) (lo hi : Int) (A : Option Addr) (c : Nat) (l : List ByteArray) (week : Bool) (hs : s.size ≤ 100000) (hk : k ≤ s.size) (HA : Hid (Names w w.heap.size A l))
    (hpA : k < s.size)
    (hbA : ((s[k].toNat : Int) == 42) = false)
    (hpB : b < s.size)
    (hbB : ((s[b].toNat : Int) == 45) = false)
    (hpS : b < s.size)
    (hbS : ((s[b].toNat : Int) == 47) = true)
    (V1 : Hid (∀ (W : World), Names W W.heap.size A l → Calls Tryz.prog 144 #[.agg #[.int .i64 lo, .int .i64 hi, .slice A l.length c, .bool week], .string s, .int .i64 k] W fun en w' => en = .returned (.tuple #[.int .i64 m1, .int .i64 b, .bool true]) ∧ Below W.heap.size W w'))
    (V3 : Hid (∀ (W : World), Calls Tryz.prog 145 #[.string s, .int .i64 ((b : Int) + 1)] W fun en w' => en = .returned (.tuple #[.int .i64 0, .int .i64 (b + 1 : Nat), .bool false]) ∧ W = w')) :
    Calls Tryz.prog 117 #[.agg #[.int .i64 lo, .int .i64 hi, .slice A l.length c, .bool week], .string s, .int .i64 k] w fun e w' => e = .returned (.tuple #[.agg #[.bool false, .int .i64 m1, .int .i64 (-1), .int .i64 0, .int .i64 k, .int .i64 0, .int .i64 (b + 1 : Nat)], .int .i64 (b + 1 : Nat), .bool false]) ∧ Below w.heap.size w w' := by
  go_enter Tryz.func117, Tryz.ntmps117
  go_wp2_with (first
    | (go_at_call 144; ((with_reducible refine (V1.out _ ?_).mono ?_)); exact (HA.out.below ((((Below.refl _ _).alloc (Nat.le_refl _) _).alloc (by simp) _).alloc (by first | (simp; done) | (simp; omega)) _) (by simp; omega)); rintro e w1 ⟨rfl, hb1⟩; obtain ⟨hc1, hf1⟩ := bcell hb1; have hbw1 : Below w.heap.size w w1 := ((((Below.refl _ _).alloc (Nat.le_refl _) _).alloc (by simp) _).alloc (by first | (simp; done) | (simp; omega)) _).trans (hb1.mono (by simp; omega)); have hz1 : w.heap.size + 1 + 1 < w1.heap.size := (by have := hb1.size; simp at this; omega); have hy1 : w.heap.size + 1 < w1.heap.size := (by omega); have hx1 : w.heap.size < w1.heap.size := (by omega))
    | (go_at_call 145; ((with_reducible refine (V3.out _).mono ?_)); rintro e w3 ⟨rfl, rfl⟩))
  refine bodyPost_ret (v := .tuple #[.agg #[.bool false, .int .i64 m1, .int .i64 (-1), .int .i64 0, .int .i64 k, .int .i64 0, .int .i64 (b + 1 : Nat)], .int .i64 (b + 1 : Nat), .bool false]) (by simp [results, Tryz.results117, go_sem, hc1, hf1, hz1, hy1, hx1]) rfl ⟨rfl, ?_⟩
  repeat (first | (with_reducible exact hbw1) | (refine Below.setCell ?_ (by first | (simp; done) | (simp; omega)) _))

set_option maxRecDepth 100000 in
set_option maxHeartbeats 1000000 in
theorem one_leaf11 (s : ByteArray) (k m1 b m2 b2 m3 e3 : Nat) (w : World) (lo hi : Int) (A : Option Addr) (c : Nat) (l : List ByteArray) (week : Bool) (hs : s.size ≤ 100000) (hk : k ≤ s.size) (HA : Hid (Names w w.heap.size A l))
    (hpA : k < s.size)
    (hbA : ((s[k].toNat : Int) == 42) = false)
    (hpB : b < s.size)
    (hbB : ((s[b].toNat : Int) == 45) = false)
    (hpS : b < s.size)
    (hbS : ((s[b].toNat : Int) == 47) = true)
    (V1 : Hid (∀ (W : World), Names W W.heap.size A l → Calls Tryz.prog 144 #[.agg #[.int .i64 lo, .int .i64 hi, .slice A l.length c, .bool week], .string s, .int .i64 k] W fun en w' => en = .returned (.tuple #[.int .i64 m1, .int .i64 b, .bool true]) ∧ Below W.heap.size W w'))
    (V3 : Hid (∀ (W : World), Calls Tryz.prog 145 #[.string s, .int .i64 ((b : Int) + 1)] W fun en w' => en = .returned (.tuple #[.int .i64 m3, .int .i64 e3, .bool true]) ∧ W = w')) :
    Calls Tryz.prog 117 #[.agg #[.int .i64 lo, .int .i64 hi, .slice A l.length c, .bool week], .string s, .int .i64 k] w fun e w' => e = .returned (.tuple #[.agg #[.bool false, .int .i64 m1, .int .i64 (-1), .int .i64 m3, .int .i64 k, .int .i64 0, .int .i64 (b + 1 : Nat)], .int .i64 e3, .bool true]) ∧ Below w.heap.size w w' := by
  go_enter Tryz.func117, Tryz.ntmps117
  go_wp2_with (first
    | (go_at_call 144; ((with_reducible refine (V1.out _ ?_).mono ?_)); exact (HA.out.below ((((Below.refl _ _).alloc (Nat.le_refl _) _).alloc (by simp) _).alloc (by first | (simp; done) | (simp; omega)) _) (by simp; omega)); rintro e w1 ⟨rfl, hb1⟩; obtain ⟨hc1, hf1⟩ := bcell hb1; have hbw1 : Below w.heap.size w w1 := ((((Below.refl _ _).alloc (Nat.le_refl _) _).alloc (by simp) _).alloc (by first | (simp; done) | (simp; omega)) _).trans (hb1.mono (by simp; omega)); have hz1 : w.heap.size + 1 + 1 < w1.heap.size := (by have := hb1.size; simp at this; omega); have hy1 : w.heap.size + 1 < w1.heap.size := (by omega); have hx1 : w.heap.size < w1.heap.size := (by omega))
    | (go_at_call 145; ((with_reducible refine (V3.out _).mono ?_)); rintro e w3 ⟨rfl, rfl⟩))
  refine bodyPost_ret (v := .tuple #[.agg #[.bool false, .int .i64 m1, .int .i64 (-1), .int .i64 m3, .int .i64 k, .int .i64 0, .int .i64 (b + 1 : Nat)], .int .i64 e3, .bool true]) (by simp [results, Tryz.results117, go_sem, hc1, hf1, hz1, hy1, hx1]) rfl ⟨rfl, ?_⟩
  repeat (first | (with_reducible exact hbw1) | (refine Below.setCell ?_ (by first | (simp; done) | (simp; omega)) _))

set_option maxRecDepth 100000 in
set_option maxHeartbeats 1000000 in
theorem one_leaf12 (s : ByteArray) (k m1 b m2 b2 m3 e3 : Nat) (w : World) (lo hi : Int) (A : Option Addr) (c : Nat) (l : List ByteArray) (week : Bool) (hs : s.size ≤ 100000) (hk : k ≤ s.size) (HA : Hid (Names w w.heap.size A l))
    (hpA : k < s.size)
    (hbA : ((s[k].toNat : Int) == 42) = false)
    (hpB : b < s.size)
    (hbB : ((s[b].toNat : Int) == 45) = false)
    (hpS : b < s.size)
    (hbS : ((s[b].toNat : Int) == 47) = false)
    (V1 : Hid (∀ (W : World), Names W W.heap.size A l → Calls Tryz.prog 144 #[.agg #[.int .i64 lo, .int .i64 hi, .slice A l.length c, .bool week], .string s, .int .i64 k] W fun en w' => en = .returned (.tuple #[.int .i64 m1, .int .i64 b, .bool true]) ∧ Below W.heap.size W w')) :
    Calls Tryz.prog 117 #[.agg #[.int .i64 lo, .int .i64 hi, .slice A l.length c, .bool week], .string s, .int .i64 k] w fun e w' => e = .returned (.tuple #[.agg #[.bool false, .int .i64 m1, .int .i64 (-1), .int .i64 (-1), .int .i64 k, .int .i64 0, .int .i64 0], .int .i64 (b : Nat), .bool true]) ∧ Below w.heap.size w w' := by
  go_enter Tryz.func117, Tryz.ntmps117
  go_wp2_with (first
    | (go_at_call 144; ((with_reducible refine (V1.out _ ?_).mono ?_)); exact (HA.out.below ((((Below.refl _ _).alloc (Nat.le_refl _) _).alloc (by simp) _).alloc (by first | (simp; done) | (simp; omega)) _) (by simp; omega)); rintro e w1 ⟨rfl, hb1⟩; obtain ⟨hc1, hf1⟩ := bcell hb1; have hbw1 : Below w.heap.size w w1 := ((((Below.refl _ _).alloc (Nat.le_refl _) _).alloc (by simp) _).alloc (by first | (simp; done) | (simp; omega)) _).trans (hb1.mono (by simp; omega)); have hz1 : w.heap.size + 1 + 1 < w1.heap.size := (by have := hb1.size; simp at this; omega); have hy1 : w.heap.size + 1 < w1.heap.size := (by omega); have hx1 : w.heap.size < w1.heap.size := (by omega)))
  refine bodyPost_ret (v := .tuple #[.agg #[.bool false, .int .i64 m1, .int .i64 (-1), .int .i64 (-1), .int .i64 k, .int .i64 0, .int .i64 0], .int .i64 (b : Nat), .bool true]) (by simp [results, Tryz.results117, go_sem, hc1, hf1, hz1, hy1, hx1]) rfl ⟨rfl, ?_⟩
  repeat (first | (with_reducible exact hbw1) | (refine Below.setCell ?_ (by first | (simp; done) | (simp; omega)) _))

set_option maxRecDepth 100000 in
set_option maxHeartbeats 1000000 in
theorem one_leaf13 (s : ByteArray) (k m1 b m2 b2 m3 e3 : Nat) (w : World) (lo hi : Int) (A : Option Addr) (c : Nat) (l : List ByteArray) (week : Bool) (hs : s.size ≤ 100000) (hk : k ≤ s.size) (HA : Hid (Names w w.heap.size A l))
    (hpA : k < s.size)
    (hbA : ((s[k].toNat : Int) == 42) = false)
    (hpB : ¬ b < s.size)
    (V1 : Hid (∀ (W : World), Names W W.heap.size A l → Calls Tryz.prog 144 #[.agg #[.int .i64 lo, .int .i64 hi, .slice A l.length c, .bool week], .string s, .int .i64 k] W fun en w' => en = .returned (.tuple #[.int .i64 m1, .int .i64 b, .bool true]) ∧ Below W.heap.size W w')) :
    Calls Tryz.prog 117 #[.agg #[.int .i64 lo, .int .i64 hi, .slice A l.length c, .bool week], .string s, .int .i64 k] w fun e w' => e = .returned (.tuple #[.agg #[.bool false, .int .i64 m1, .int .i64 (-1), .int .i64 (-1), .int .i64 k, .int .i64 0, .int .i64 0], .int .i64 b, .bool true]) ∧ Below w.heap.size w w' := by
  go_enter Tryz.func117, Tryz.ntmps117
  go_wp2_with (first
    | (go_at_call 144; ((with_reducible refine (V1.out _ ?_).mono ?_)); exact (HA.out.below ((((Below.refl _ _).alloc (Nat.le_refl _) _).alloc (by simp) _).alloc (by first | (simp; done) | (simp; omega)) _) (by simp; omega)); rintro e w1 ⟨rfl, hb1⟩; obtain ⟨hc1, hf1⟩ := bcell hb1; have hbw1 : Below w.heap.size w w1 := ((((Below.refl _ _).alloc (Nat.le_refl _) _).alloc (by simp) _).alloc (by first | (simp; done) | (simp; omega)) _).trans (hb1.mono (by simp; omega)); have hz1 : w.heap.size + 1 + 1 < w1.heap.size := (by have := hb1.size; simp at this; omega); have hy1 : w.heap.size + 1 < w1.heap.size := (by omega); have hx1 : w.heap.size < w1.heap.size := (by omega)))
  refine bodyPost_ret (v := .tuple #[.agg #[.bool false, .int .i64 m1, .int .i64 (-1), .int .i64 (-1), .int .i64 k, .int .i64 0, .int .i64 0], .int .i64 b, .bool true]) (by simp [results, Tryz.results117, go_sem, hc1, hf1, hz1, hy1, hx1]) rfl ⟨rfl, ?_⟩
  repeat (first | (with_reducible exact hbw1) | (refine Below.setCell ?_ (by first | (simp; done) | (simp; omega)) _))

set_option maxRecDepth 100000 in
set_option maxHeartbeats 1000000 in
theorem one_leaf14 (s : ByteArray) (k m1 b m2 b2 m3 e3 : Nat) (w : World) (lo hi : Int) (A : Option Addr) (c : Nat) (l : List ByteArray) (week : Bool) (hs : s.size ≤ 100000) (hk : k ≤ s.size) (HA : Hid (Names w w.heap.size A l))
    (hpA : ¬ k < s.size)
    (V1 : Hid (∀ (W : World), Names W W.heap.size A l → Calls Tryz.prog 144 #[.agg #[.int .i64 lo, .int .i64 hi, .slice A l.length c, .bool week], .string s, .int .i64 k] W fun en w' => en = .returned (.tuple #[.int .i64 0, .int .i64 k, .bool false]) ∧ Below W.heap.size W w')) :
    Calls Tryz.prog 117 #[.agg #[.int .i64 lo, .int .i64 hi, .slice A l.length c, .bool week], .string s, .int .i64 k] w fun e w' => e = .returned (.tuple #[.agg #[.bool false, .int .i64 0, .int .i64 (-1), .int .i64 (-1), .int .i64 k, .int .i64 0, .int .i64 0], .int .i64 k, .bool false]) ∧ Below w.heap.size w w' := by
  go_enter Tryz.func117, Tryz.ntmps117
  go_wp2_with (first
    | (go_at_call 144; ((with_reducible refine (V1.out _ ?_).mono ?_)); exact (HA.out.below ((((Below.refl _ _).alloc (Nat.le_refl _) _).alloc (by simp) _).alloc (by first | (simp; done) | (simp; omega)) _) (by simp; omega)); rintro e w1 ⟨rfl, hb1⟩; obtain ⟨hc1, hf1⟩ := bcell hb1; have hbw1 : Below w.heap.size w w1 := ((((Below.refl _ _).alloc (Nat.le_refl _) _).alloc (by simp) _).alloc (by first | (simp; done) | (simp; omega)) _).trans (hb1.mono (by simp; omega)); have hz1 : w.heap.size + 1 + 1 < w1.heap.size := (by have := hb1.size; simp at this; omega); have hy1 : w.heap.size + 1 < w1.heap.size := (by omega); have hx1 : w.heap.size < w1.heap.size := (by omega)))
  refine bodyPost_ret (v := .tuple #[.agg #[.bool false, .int .i64 0, .int .i64 (-1), .int .i64 (-1), .int .i64 k, .int .i64 0, .int .i64 0], .int .i64 k, .bool false]) (by simp [results, Tryz.results117, go_sem, hc1, hf1, hz1, hy1, hx1]) rfl ⟨rfl, ?_⟩
  repeat (first | (with_reducible exact hbw1) | (refine Below.setCell ?_ (by first | (simp; done) | (simp; omega)) _))

/-- What reading one item comes to. -/
def OneR (w : World) : Fs.Rd Fs.Item → Ending → World → Prop
  | .ok x b, e, w' => e = .returned (.tuple #[encR x, .int .i64 b, .bool true]) ∧ Below w.heap.size w w'
  | .bad a, e, w' => (∃ (c0 : Bool) (c1 c2 c3 c4 c5 c6 : Int), e = .returned (.tuple #[.agg #[.bool c0, .int .i64 c1, .int .i64 c2, .int .i64 c3, .int .i64 c4, .int .i64 c5, .int .i64 c6], .int .i64 a, .bool false])) ∧ Below w.heap.size w w'

set_option maxRecDepth 100000 in
set_option maxHeartbeats 4000000 in
theorem ref_one (s : ByteArray) (k : Nat) (w : World) (lo hi : Int) (A : Option Addr) (c : Nat) (l : List ByteArray) (week : Bool) (hs : s.size ≤ 100000) (hk : k ≤ s.size) (hlo : 0 ≤ lo) (hhi : lo ≤ 62)
    (hn : l.length ≤ 1000) (hcc : l.length ≤ c) (hA : Names w w.heap.size A l) :
    Calls Tryz.prog 117 #[.agg #[.int .i64 lo, .int .i64 hi, .slice A l.length c, .bool week], .string s, .int .i64 k] w (OneR w (Fs.itemAt (kind lo hi l week) s.data.toList k)) := by
  have HA := Lib.hid hA; clear hA
  have hvalS : ∀ (j n e : Nat), j ≤ 100001 → Fs.valAt (kind lo hi l week) s.data.toList j = some (n, e) → ∀ (W : World), Names W W.heap.size A l → Calls Tryz.prog 144 #[.agg #[.int .i64 lo, .int .i64 hi, .slice A l.length c, .bool week], .string s, .int .i64 j] W fun en w' => en = .returned (.tuple #[.int .i64 n, .int .i64 e, .bool true]) ∧ Below W.heap.size W w' :=
    fun j n e hj hr W hN => by have := ref_value s j W lo hi A c l week hs hj hlo hhi hn hcc hN; rw [hr] at this; exact this
  have hvalN : ∀ (j : Nat), j ≤ 100001 → Fs.valAt (kind lo hi l week) s.data.toList j = none → ∀ (W : World), Names W W.heap.size A l → Calls Tryz.prog 144 #[.agg #[.int .i64 lo, .int .i64 hi, .slice A l.length c, .bool week], .string s, .int .i64 j] W fun en w' => en = .returned (.tuple #[.int .i64 0, .int .i64 j, .bool false]) ∧ Below W.heap.size W w' :=
    fun j hj hr W hN => by have := ref_value s j W lo hi A c l week hs hj hlo hhi hn hcc hN; rw [hr] at this; exact this
  have hnumS : ∀ (j n e : Nat), j ≤ 100001 → Fs.numAt s.data.toList j = some (n, e) → ∀ (W : World), Calls Tryz.prog 145 #[.string s, .int .i64 j] W fun en w' => en = .returned (.tuple #[.int .i64 n, .int .i64 e, .bool true]) ∧ W = w' :=
    fun j n e hj hr W => by have := ref_number s j W hs hj; rw [hr] at this; exact this
  have hnumN : ∀ (j : Nat), j ≤ 100001 → Fs.numAt s.data.toList j = none → ∀ (W : World), Calls Tryz.prog 145 #[.string s, .int .i64 j] W fun en w' => en = .returned (.tuple #[.int .i64 0, .int .i64 j, .bool false]) ∧ W = w' :=
    fun j hj hr W => by have := ref_number s j W hs hj; rw [hr] at this; exact this
  have HvalS := Lib.hid hvalS; clear hvalS
  have HvalN := Lib.hid hvalN; clear hvalN
  have HnumS := Lib.hid hnumS; clear hnumS
  have HnumN := Lib.hid hnumN; clear hnumN
  have hsz := Lib.size_eq s
  have hsz' : s.data.toList.length = s.size := hsz.symm
  have Hz := Lib.hid hsz'; clear hsz hsz'
  generalize hit : Fs.itemAt (kind lo hi l week) s.data.toList k = it
  have Hit := Lib.hid hit; clear hit
  rcases byte_cases s (k) 42 (by omega) with ⟨hqA, hpA, hbA⟩ | ⟨hqA, hpA, hbA⟩ | ⟨hqA, hpA, hzA⟩
  ·
    rcases byte_cases s (k + 1) 47 (by omega) with ⟨hqS, hpS, hbS⟩ | ⟨hqS, hpS, hbS⟩ | ⟨hqS, hpS, hzS⟩
    · cases hr3 : Fs.numAt s.data.toList (k + 1 + 1) with
      | none =>
        have v3 := HnumN.out (k + 1 + 1) (by omega) hr3
        rw [show ((k + 1 + 1 : Nat) : Int) = ((k : Int) + 1) + 1 from by omega] at v3
        have V3 := Lib.hid v3; clear v3
        have hit : it = .bad (k + 1 + 1) := by rw [← Hit.out]; simp only [Fs.itemAt, Fs.stepAt, Bool.false_eq_true, if_false, if_true, hqA, hqS, hr3]
        subst hit
        exact (one_leaf0 s k 0 0 0 0 0 0 w lo hi A c l week hs hk HA hpA hbA hpS hbS V3).mono fun _ _ h => ⟨⟨_, _, _, _, _, _, _, h.1⟩, h.2⟩
      | some r =>
        obtain ⟨m3, e3⟩ := r
        have v3 := HnumS.out (k + 1 + 1) m3 e3 (by omega) hr3
        rw [show ((k + 1 + 1 : Nat) : Int) = ((k : Int) + 1) + 1 from by omega] at v3
        have V3 := Lib.hid v3; clear v3
        have hit : it = .ok { { Fs.Item.start k with star := true } with step := some (m3, k + 1 + 1) } e3 := by rw [← Hit.out]; simp only [Fs.itemAt, Fs.stepAt, Bool.false_eq_true, if_false, if_true, hqA, hqS, hr3]
        subst hit
        exact (one_leaf1 s k 0 0 0 0 m3 e3 w lo hi A c l week hs hk HA hpA hbA hpS hbS V3).mono fun _ _ h => ⟨h.1, h.2⟩
    ·
      have hit : it = .ok { Fs.Item.start k with star := true } (k + 1) := by rw [← Hit.out]; simp only [Fs.itemAt, Fs.stepAt, Bool.false_eq_true, if_false, if_true, hqA, hqS]
      subst hit
      exact (one_leaf2 s k 0 0 0 0 0 0 w lo hi A c l week hs hk HA hpA hbA hpS hbS).mono fun _ _ h => ⟨h.1, h.2⟩
    ·
      have hit : it = .ok { Fs.Item.start k with star := true } (k + 1) := by rw [← Hit.out]; simp only [Fs.itemAt, Fs.stepAt, Bool.false_eq_true, if_false, if_true, hqA, hqS]
      subst hit
      exact (one_leaf3 s k 0 0 0 0 0 0 w lo hi A c l week hs hk HA hpA hbA hpS).mono fun _ _ h => ⟨h.1, h.2⟩
  ·
    cases hr1 : Fs.valAt (kind lo hi l week) s.data.toList k with
      | none =>
        have V1 := Lib.hid (HvalN.out k (by omega) hr1)
        have hit : it = .bad k := by rw [← Hit.out]; simp only [Fs.itemAt, Fs.stepAt, Bool.false_eq_true, if_false, if_true, hqA, hr1]
        subst hit
        exact (one_leaf4 s k 0 0 0 0 0 0 w lo hi A c l week hs hk HA hpA hbA V1).mono fun _ _ h => ⟨⟨_, _, _, _, _, _, _, h.1⟩, h.2⟩
      | some r =>
        obtain ⟨m1, b⟩ := r
        have hle := valAt_le hr1 (by rw [Hz.out]; omega)
        rw [Hz.out] at hle
        obtain ⟨hble, hkb⟩ := hle
        have V1 := Lib.hid (HvalS.out k m1 b (by omega) hr1)
        rcases byte_cases s (b) 45 (by omega) with ⟨hqB, hpB, hbB⟩ | ⟨hqB, hpB, hbB⟩ | ⟨hqB, hpB, hzB⟩
        ·
          cases hr2 : Fs.valAt (kind lo hi l week) s.data.toList (b + 1) with
            | none =>
              have v2 := HvalN.out (b + 1) (by omega) hr2
              rw [show ((b + 1 : Nat) : Int) = (b : Int) + 1 from by omega] at v2
              have V2 := Lib.hid v2; clear v2
              have hit : it = .bad (b + 1) := by rw [← Hit.out]; simp only [Fs.itemAt, Fs.stepAt, Bool.false_eq_true, if_false, if_true, hqA, hr1, hqB, hr2]
              subst hit
              exact (one_leaf5 s k m1 b 0 0 0 0 w lo hi A c l week hs hk HA hpA hbA hpB hbB V1 V2).mono fun _ _ h => ⟨⟨_, _, _, _, _, _, _, h.1⟩, h.2⟩
            | some r =>
              obtain ⟨m2, b2⟩ := r
              have hle2 := valAt_le hr2 (by rw [Hz.out]; omega)
              rw [Hz.out] at hle2
              obtain ⟨hble2, hkb2⟩ := hle2
              have v2 := HvalS.out (b + 1) m2 b2 (by omega) hr2
              rw [show ((b + 1 : Nat) : Int) = (b : Int) + 1 from by omega] at v2
              have V2 := Lib.hid v2; clear v2
              rcases byte_cases s (b2) 47 (by omega) with ⟨hqS, hpS, hbS⟩ | ⟨hqS, hpS, hbS⟩ | ⟨hqS, hpS, hzS⟩
              · cases hr3 : Fs.numAt s.data.toList (b2 + 1) with
                | none =>
                  have v3 := HnumN.out (b2 + 1) (by omega) hr3
                  rw [show ((b2 + 1 : Nat) : Int) = (b2 : Int) + 1 from by omega] at v3
                  have V3 := Lib.hid v3; clear v3
                  have hit : it = .bad (b2 + 1) := by rw [← Hit.out]; simp only [Fs.itemAt, Fs.stepAt, Bool.false_eq_true, if_false, if_true, hqA, hr1, hqB, hr2, hqS, hr3]
                  subst hit
                  exact (one_leaf6 s k m1 b m2 b2 0 0 w lo hi A c l week hs hk HA hpA hbA hpB hbB hpS hbS V1 V2 V3).mono fun _ _ h => ⟨⟨_, _, _, _, _, _, _, h.1⟩, h.2⟩
                | some r =>
                  obtain ⟨m3, e3⟩ := r
                  have v3 := HnumS.out (b2 + 1) m3 e3 (by omega) hr3
                  rw [show ((b2 + 1 : Nat) : Int) = (b2 : Int) + 1 from by omega] at v3
                  have V3 := Lib.hid v3; clear v3
                  have hit : it = .ok { { Fs.Item.start k with lo := some (m1, k), hi := some (m2, b + 1) } with step := some (m3, b2 + 1) } e3 := by rw [← Hit.out]; simp only [Fs.itemAt, Fs.stepAt, Bool.false_eq_true, if_false, if_true, hqA, hr1, hqB, hr2, hqS, hr3]
                  subst hit
                  exact (one_leaf7 s k m1 b m2 b2 m3 e3 w lo hi A c l week hs hk HA hpA hbA hpB hbB hpS hbS V1 V2 V3).mono fun _ _ h => ⟨h.1, h.2⟩
              ·
                have hit : it = .ok { Fs.Item.start k with lo := some (m1, k), hi := some (m2, b + 1) } (b2) := by rw [← Hit.out]; simp only [Fs.itemAt, Fs.stepAt, Bool.false_eq_true, if_false, if_true, hqA, hr1, hqB, hr2, hqS]
                subst hit
                exact (one_leaf8 s k m1 b m2 b2 0 0 w lo hi A c l week hs hk HA hpA hbA hpB hbB hpS hbS V1 V2).mono fun _ _ h => ⟨h.1, h.2⟩
              ·
                have hit : it = .ok { Fs.Item.start k with lo := some (m1, k), hi := some (m2, b + 1) } (b2) := by rw [← Hit.out]; simp only [Fs.itemAt, Fs.stepAt, Bool.false_eq_true, if_false, if_true, hqA, hr1, hqB, hr2, hqS]
                subst hit
                exact (one_leaf9 s k m1 b m2 b2 0 0 w lo hi A c l week hs hk HA hpA hbA hpB hbB hpS V1 V2).mono fun _ _ h => ⟨h.1, h.2⟩
        ·
          rcases byte_cases s (b) 47 (by omega) with ⟨hqS, hpS, hbS⟩ | ⟨hqS, hpS, hbS⟩ | ⟨hqS, hpS, hzS⟩
          · cases hr3 : Fs.numAt s.data.toList (b + 1) with
            | none =>
              have v3 := HnumN.out (b + 1) (by omega) hr3
              rw [show ((b + 1 : Nat) : Int) = (b : Int) + 1 from by omega] at v3
              have V3 := Lib.hid v3; clear v3
              have hit : it = .bad (b + 1) := by rw [← Hit.out]; simp only [Fs.itemAt, Fs.stepAt, Bool.false_eq_true, if_false, if_true, hqA, hr1, hqB, hqS, hr3]
              subst hit
              exact (one_leaf10 s k m1 b 0 0 0 0 w lo hi A c l week hs hk HA hpA hbA hpB hbB hpS hbS V1 V3).mono fun _ _ h => ⟨⟨_, _, _, _, _, _, _, h.1⟩, h.2⟩
            | some r =>
              obtain ⟨m3, e3⟩ := r
              have v3 := HnumS.out (b + 1) m3 e3 (by omega) hr3
              rw [show ((b + 1 : Nat) : Int) = (b : Int) + 1 from by omega] at v3
              have V3 := Lib.hid v3; clear v3
              have hit : it = .ok { { Fs.Item.start k with lo := some (m1, k) } with step := some (m3, b + 1) } e3 := by rw [← Hit.out]; simp only [Fs.itemAt, Fs.stepAt, Bool.false_eq_true, if_false, if_true, hqA, hr1, hqB, hqS, hr3]
              subst hit
              exact (one_leaf11 s k m1 b 0 0 m3 e3 w lo hi A c l week hs hk HA hpA hbA hpB hbB hpS hbS V1 V3).mono fun _ _ h => ⟨h.1, h.2⟩
          ·
            have hit : it = .ok { Fs.Item.start k with lo := some (m1, k) } (b) := by rw [← Hit.out]; simp only [Fs.itemAt, Fs.stepAt, Bool.false_eq_true, if_false, if_true, hqA, hr1, hqB, hqS]
            subst hit
            exact (one_leaf12 s k m1 b 0 0 0 0 w lo hi A c l week hs hk HA hpA hbA hpB hbB hpS hbS V1).mono fun _ _ h => ⟨h.1, h.2⟩
          ·
            exfalso; omega
        ·
          have hqS : Fs.byteAt s.data.toList b 47 = false := by rcases byte_cases s b 47 (by omega) with ⟨h, h', _⟩ | ⟨h, _⟩ | ⟨h, _⟩ <;> first | exact h | (exfalso; omega)
          have hit : it = .ok { Fs.Item.start k with lo := some (m1, k) } b := by rw [← Hit.out]; simp only [Fs.itemAt, Fs.stepAt, Bool.false_eq_true, if_false, if_true, hqA, hr1, hqB, hqS]
          subst hit
          exact (one_leaf13 s k m1 b 0 0 0 0 w lo hi A c l week hs hk HA hpA hbA hpB V1).mono fun _ _ h => ⟨h.1, h.2⟩
  ·
    have hr1 : Fs.valAt (kind lo hi l week) s.data.toList k = none := by rw [valAt_num _ _ _ (span_past s k (by omega))]; exact Fs.numAt_end _ _ (by rw [Hz.out]; omega)
    have V1 := Lib.hid (HvalN.out k (by omega) hr1)
    have hit : it = .bad k := by rw [← Hit.out]; simp only [Fs.itemAt, Fs.stepAt, Bool.false_eq_true, if_false, if_true, hqA, hr1]
    subst hit
    exact (one_leaf14 s k 0 0 0 0 0 0 w lo hi A c l week hs hk HA hpA V1).mono fun _ _ h => ⟨⟨_, _, _, _, _, _, _, h.1⟩, h.2⟩

end Go.Proofs.YtjnlgaeedcklaaaGreatDoor
