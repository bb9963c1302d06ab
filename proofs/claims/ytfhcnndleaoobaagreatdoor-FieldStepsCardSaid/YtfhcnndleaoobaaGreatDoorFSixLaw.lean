/-
  The laws' helper six: one of the six kinds.
-/
import Derived.Test.YtfhcnndleaoobaaGreatDoorFWorks
import Derived.Deep.RegionHeld
set_option linter.unusedVariables false
set_option linter.unusedSimpArgs false
namespace Go.Proofs.YtfhcnndleaoobaaGreatDoor
open Go.RowKit

/-- The i-th of the six kinds. -/
def SixK (i : Nat) (lo hi : Int) (l : List ByteArray) (week : Bool) : Prop :=
  (i = 0 ∧ lo = 0 ∧ hi = 59 ∧ l = [] ∧ week = false) ∨ (i = 1 ∧ lo = 0 ∧ hi = 59 ∧ l = [] ∧ week = false) ∨ (i = 2 ∧ lo = 0 ∧ hi = 23 ∧ l = [] ∧ week = false) ∨
  (i = 3 ∧ lo = 1 ∧ hi = 31 ∧ l = [] ∧ week = false) ∨ (i = 4 ∧ lo = 1 ∧ hi = 12 ∧ l = monthsB ∧ week = false) ∨ (i = 5 ∧ lo = 0 ∧ hi = 6 ∧ l = daysB ∧ week = true)

structure KindAt (w : World) (i : Nat) (lo hi : Int) (A : Option Addr) (c : Nat) (l : List ByteArray) (week : Bool) : Prop where
  six : SixK i lo hi l week
  names : Names w w.heap.size A l
  cap : l.length ≤ c

theorem KindAt.grow {w w' : World} {i : Nat} {lo hi : Int} {A : Option Addr} {c : Nat} {l : List ByteArray} {week : Bool} (h : KindAt w i lo hi A c l week) (hb : Below w.heap.size w w') : KindAt w' i lo hi A c l week :=
  ⟨h.six, h.names.below hb hb.size, h.cap⟩

theorem SixK.facts {i : Nat} {lo hi : Int} {l : List ByteArray} {week : Bool} (h : SixK i lo hi l week) :
    Fs.checkB (kind lo hi l week) = true ∧ 0 ≤ lo ∧ lo ≤ hi ∧ hi ≤ 59 ∧ l.length ≤ 12 ∧ (∀ s ∈ l, s.size ≤ 3) ∧ Fs.full (kind lo hi l week) ≠ 0 ∧ Fs.full (kind lo hi l week) < 18446744073709551616 := by
  rcases h with ⟨rfl, rfl, rfl, rfl, rfl⟩ | ⟨rfl, rfl, rfl, rfl, rfl⟩ | ⟨rfl, rfl, rfl, rfl, rfl⟩ | ⟨rfl, rfl, rfl, rfl, rfl⟩ | ⟨rfl, rfl, rfl, rfl, rfl⟩ | ⟨rfl, rfl, rfl, rfl, rfl⟩ <;>
  exact ⟨by decide +kernel, by decide, by decide, by decide, by decide, by decide, by decide +kernel, by decide +kernel⟩


theorem Names.setCell {w : World} {B : Nat} {A : Option Addr} {l : List ByteArray} (h : Names w B A l) {p : Addr} (v : Value) (hp : ∀ a, A = some a → a.block ≠ p.block) : Names (w.setCell p v) B A l := by
  rcases h with h | ⟨b, off, rfl, hlt, hc⟩
  · exact .inl h
  · refine .inr ⟨b, off, rfl, hlt, fun j hj => ?_⟩
    rw [World.cell?_setCell_far w p ⟨b, off + j, none⟩ v (fun e => hp ⟨b, off, none⟩ rfl e.symm)]
    exact hc j hj
theorem size4 (w : World) (a b c d : Addr) (x y z u : Value) : ((((w.setCell a x).setCell b y).setCell c z).setCell d u).heap.size = w.heap.size := by simp


theorem full_0_num : Fs.fullB (kind 0 59 [] false) = (1152921504606846975, 0) := by decide +kernel
theorem full_0_eq : Fs.full (kind 0 59 [] false) = 1152921504606846975 := by decide +kernel
theorem full_0 (w : World) {g m d : Nat} (h6 : SixAt w g m d) : Calls Tryz.prog 24 #[.agg #[.int .i64 0, .int .i64 59, .slice none 0 0, .bool false]] w fun e w' => e = .returned (.tuple #[.int .u64 1152921504606846975, .int .i64 0]) ∧ Below w.heap.size w w' := by
  have h := field_Full w 0 59 none 0 [] false (by decide) (by decide) (by decide) (by decide) (by decide) (by decide) (names_none _ _) (by simp)
  rw [full_0_num] at h; exact h
set_option maxHeartbeats 1000000 in
theorem six_0 (n : Nat) (w : World) (hn : n < 256) (hT : Tabs w) (hi : n % 6 = 0) : Calls Tryz.prog 32 #[.int .u8 n] w fun e w' => ∃ m d : Nat,
    e = .returned (.tuple #[.agg #[.int .i64 0, .int .i64 59, .slice none 0 0, .bool false], .int .u64 1152921504606846975, .bool true]) ∧ Below w.heap.size w w' ∧ KindAt w' 0 0 59 none 0 [] false := by
  have HT := Lib.hid hT; clear hT
  go_enter Tryz.func32, Tryz.ntmps32
  go_wp2_with (first
    | (go_at_call 30; (with_reducible refine (field_Six _ (HT.out.alloc _)).mono ?_); rintro e w1 ⟨g, m, d, rfl, hb1, h6, hm, hd⟩
       have B1 := Lib.hid hb1; have S1 := Lib.hid h6; have D := Lib.hid (And.intro (Eq.refl m) (Eq.refl d)); obtain ⟨hc1, hf1⟩ := bcell hb1
       have s1 : w.heap.size < w1.heap.size := by have := hb1.size; simp at this; omega
       have hg := h6.lt; have c0 : w1.cell? ⟨g, 0, none⟩ = some (.int .i64 0) := h6.cells 0 _ rfl; have c1 : w1.cell? ⟨g, 1, none⟩ = some (.int .i64 59) := h6.cells 1 _ rfl; have c2 : w1.cell? ⟨g, 2, none⟩ = some (.slice none 0 0) := h6.cells 2 _ rfl; have c3 : w1.cell? ⟨g, 3, none⟩ = some (.bool false) := h6.cells 3 _ rfl; have hm1 := Lib.hid hm; have hd1 := Lib.hid hd; clear hb1 h6 hm hd)
    | (go_at_call 24; (with_reducible refine (full_0 _ (S1.out.grow ((Below.refl _ _).alloc (Nat.le_refl _) _))).mono ?_); rintro e w2 ⟨rfl, hb2⟩
       have B2 := Lib.hid hb2; have S2 := Lib.hid ((S1.out.grow ((Below.refl _ _).alloc (Nat.le_refl _) _)).grow hb2); obtain ⟨hc2, hf2⟩ := bcell hb2
       have s2 : w1.heap.size < w2.heap.size := by have := hb2.size; simp at this; omega
       clear hb2))
  have e0 : ∀ j, w2.cell? ⟨w.heap.size, j, none⟩ = (#[.int .i64 0, .int .i64 0, .slice none 0 0, .bool false] : Array Value)[j]? := fun j => by rw [hc2 _ _ (by simp; omega), World.cell?_alloc_past _ _ _ s1, hc1 _ _ (by simp), World.cell?_alloc_at _ _ _ _ rfl]
  have z0 : w2.cell? ⟨w.heap.size, 0, none⟩ = some (.int .i64 0) := e0 0
  have z1 : w2.cell? ⟨w.heap.size, 1, none⟩ = some (.int .i64 0) := e0 1
  have z2 : w2.cell? ⟨w.heap.size, 2, none⟩ = some (.slice none 0 0) := e0 2
  have z3 : w2.cell? ⟨w.heap.size, 3, none⟩ = some (.bool false) := e0 3
  refine bodyPost_ret (v := .tuple #[.agg #[.int .i64 0, .int .i64 59, .slice none 0 0, .bool false], .int .u64 1152921504606846975, .bool true]) (by simp [results, Tryz.results32, go_sem, z0, z1, z2, z3]) rfl ⟨m, d, rfl, ?_, ⟨by simp [SixK], ?_, by decide⟩⟩
  · have hq := ((Below.refl w.heap.size w).alloc (Nat.le_refl _) _).trans (B1.out.mono (by simp))
    have hr := (hq.alloc (by omega) _).trans (B2.out.mono (by simp; omega))
    exact (((hr.setCell (p := ⟨w.heap.size, 0, none⟩) (Nat.le_refl _) _).setCell (p := ⟨w.heap.size, 1, none⟩) (Nat.le_refl _) _).setCell (p := ⟨w.heap.size, 2, none⟩) (Nat.le_refl _) _).setCell (p := ⟨w.heap.size, 3, none⟩) (Nat.le_refl _) _
  · rw [size4]
    have Hm := hm1.out
    have Hd := hd1.out
    simp only [World.size_alloc] at Hm Hd
    exact .inl rfl


theorem full_1_num : Fs.fullB (kind 0 59 [] false) = (1152921504606846975, 0) := by decide +kernel
theorem full_1_eq : Fs.full (kind 0 59 [] false) = 1152921504606846975 := by decide +kernel
theorem full_1 (w : World) {g m d : Nat} (h6 : SixAt w g m d) : Calls Tryz.prog 24 #[.agg #[.int .i64 0, .int .i64 59, .slice none 0 0, .bool false]] w fun e w' => e = .returned (.tuple #[.int .u64 1152921504606846975, .int .i64 0]) ∧ Below w.heap.size w w' := by
  have h := field_Full w 0 59 none 0 [] false (by decide) (by decide) (by decide) (by decide) (by decide) (by decide) (names_none _ _) (by simp)
  rw [full_1_num] at h; exact h
set_option maxHeartbeats 1000000 in
theorem six_1 (n : Nat) (w : World) (hn : n < 256) (hT : Tabs w) (hi : n % 6 = 1) : Calls Tryz.prog 32 #[.int .u8 n] w fun e w' => ∃ m d : Nat,
    e = .returned (.tuple #[.agg #[.int .i64 0, .int .i64 59, .slice none 0 0, .bool false], .int .u64 1152921504606846975, .bool true]) ∧ Below w.heap.size w w' ∧ KindAt w' 1 0 59 none 0 [] false := by
  have HT := Lib.hid hT; clear hT
  go_enter Tryz.func32, Tryz.ntmps32
  go_wp2_with (first
    | (go_at_call 30; (with_reducible refine (field_Six _ (HT.out.alloc _)).mono ?_); rintro e w1 ⟨g, m, d, rfl, hb1, h6, hm, hd⟩
       have B1 := Lib.hid hb1; have S1 := Lib.hid h6; have D := Lib.hid (And.intro (Eq.refl m) (Eq.refl d)); obtain ⟨hc1, hf1⟩ := bcell hb1
       have s1 : w.heap.size < w1.heap.size := by have := hb1.size; simp at this; omega
       have hg := h6.lt; have c0 : w1.cell? ⟨g, 4, none⟩ = some (.int .i64 0) := h6.cells 4 _ rfl; have c1 : w1.cell? ⟨g, 5, none⟩ = some (.int .i64 59) := h6.cells 5 _ rfl; have c2 : w1.cell? ⟨g, 6, none⟩ = some (.slice none 0 0) := h6.cells 6 _ rfl; have c3 : w1.cell? ⟨g, 7, none⟩ = some (.bool false) := h6.cells 7 _ rfl; have hm1 := Lib.hid hm; have hd1 := Lib.hid hd; clear hb1 h6 hm hd)
    | (go_at_call 24; (with_reducible refine (full_1 _ (S1.out.grow ((Below.refl _ _).alloc (Nat.le_refl _) _))).mono ?_); rintro e w2 ⟨rfl, hb2⟩
       have B2 := Lib.hid hb2; have S2 := Lib.hid ((S1.out.grow ((Below.refl _ _).alloc (Nat.le_refl _) _)).grow hb2); obtain ⟨hc2, hf2⟩ := bcell hb2
       have s2 : w1.heap.size < w2.heap.size := by have := hb2.size; simp at this; omega
       clear hb2))
  have e0 : ∀ j, w2.cell? ⟨w.heap.size, j, none⟩ = (#[.int .i64 0, .int .i64 0, .slice none 0 0, .bool false] : Array Value)[j]? := fun j => by rw [hc2 _ _ (by simp; omega), World.cell?_alloc_past _ _ _ s1, hc1 _ _ (by simp), World.cell?_alloc_at _ _ _ _ rfl]
  have z0 : w2.cell? ⟨w.heap.size, 0, none⟩ = some (.int .i64 0) := e0 0
  have z1 : w2.cell? ⟨w.heap.size, 1, none⟩ = some (.int .i64 0) := e0 1
  have z2 : w2.cell? ⟨w.heap.size, 2, none⟩ = some (.slice none 0 0) := e0 2
  have z3 : w2.cell? ⟨w.heap.size, 3, none⟩ = some (.bool false) := e0 3
  refine bodyPost_ret (v := .tuple #[.agg #[.int .i64 0, .int .i64 59, .slice none 0 0, .bool false], .int .u64 1152921504606846975, .bool true]) (by simp [results, Tryz.results32, go_sem, z0, z1, z2, z3]) rfl ⟨m, d, rfl, ?_, ⟨by simp [SixK], ?_, by decide⟩⟩
  · have hq := ((Below.refl w.heap.size w).alloc (Nat.le_refl _) _).trans (B1.out.mono (by simp))
    have hr := (hq.alloc (by omega) _).trans (B2.out.mono (by simp; omega))
    exact (((hr.setCell (p := ⟨w.heap.size, 0, none⟩) (Nat.le_refl _) _).setCell (p := ⟨w.heap.size, 1, none⟩) (Nat.le_refl _) _).setCell (p := ⟨w.heap.size, 2, none⟩) (Nat.le_refl _) _).setCell (p := ⟨w.heap.size, 3, none⟩) (Nat.le_refl _) _
  · rw [size4]
    have Hm := hm1.out
    have Hd := hd1.out
    simp only [World.size_alloc] at Hm Hd
    exact .inl rfl


theorem full_2_num : Fs.fullB (kind 0 23 [] false) = (16777215, 0) := by decide +kernel
theorem full_2_eq : Fs.full (kind 0 23 [] false) = 16777215 := by decide +kernel
theorem full_2 (w : World) {g m d : Nat} (h6 : SixAt w g m d) : Calls Tryz.prog 24 #[.agg #[.int .i64 0, .int .i64 23, .slice none 0 0, .bool false]] w fun e w' => e = .returned (.tuple #[.int .u64 16777215, .int .i64 0]) ∧ Below w.heap.size w w' := by
  have h := field_Full w 0 23 none 0 [] false (by decide) (by decide) (by decide) (by decide) (by decide) (by decide) (names_none _ _) (by simp)
  rw [full_2_num] at h; exact h
set_option maxHeartbeats 1000000 in
theorem six_2 (n : Nat) (w : World) (hn : n < 256) (hT : Tabs w) (hi : n % 6 = 2) : Calls Tryz.prog 32 #[.int .u8 n] w fun e w' => ∃ m d : Nat,
    e = .returned (.tuple #[.agg #[.int .i64 0, .int .i64 23, .slice none 0 0, .bool false], .int .u64 16777215, .bool true]) ∧ Below w.heap.size w w' ∧ KindAt w' 2 0 23 none 0 [] false := by
  have HT := Lib.hid hT; clear hT
  go_enter Tryz.func32, Tryz.ntmps32
  go_wp2_with (first
    | (go_at_call 30; (with_reducible refine (field_Six _ (HT.out.alloc _)).mono ?_); rintro e w1 ⟨g, m, d, rfl, hb1, h6, hm, hd⟩
       have B1 := Lib.hid hb1; have S1 := Lib.hid h6; have D := Lib.hid (And.intro (Eq.refl m) (Eq.refl d)); obtain ⟨hc1, hf1⟩ := bcell hb1
       have s1 : w.heap.size < w1.heap.size := by have := hb1.size; simp at this; omega
       have hg := h6.lt; have c0 : w1.cell? ⟨g, 8, none⟩ = some (.int .i64 0) := h6.cells 8 _ rfl; have c1 : w1.cell? ⟨g, 9, none⟩ = some (.int .i64 23) := h6.cells 9 _ rfl; have c2 : w1.cell? ⟨g, 10, none⟩ = some (.slice none 0 0) := h6.cells 10 _ rfl; have c3 : w1.cell? ⟨g, 11, none⟩ = some (.bool false) := h6.cells 11 _ rfl; have hm1 := Lib.hid hm; have hd1 := Lib.hid hd; clear hb1 h6 hm hd)
    | (go_at_call 24; (with_reducible refine (full_2 _ (S1.out.grow ((Below.refl _ _).alloc (Nat.le_refl _) _))).mono ?_); rintro e w2 ⟨rfl, hb2⟩
       have B2 := Lib.hid hb2; have S2 := Lib.hid ((S1.out.grow ((Below.refl _ _).alloc (Nat.le_refl _) _)).grow hb2); obtain ⟨hc2, hf2⟩ := bcell hb2
       have s2 : w1.heap.size < w2.heap.size := by have := hb2.size; simp at this; omega
       clear hb2))
  have e0 : ∀ j, w2.cell? ⟨w.heap.size, j, none⟩ = (#[.int .i64 0, .int .i64 0, .slice none 0 0, .bool false] : Array Value)[j]? := fun j => by rw [hc2 _ _ (by simp; omega), World.cell?_alloc_past _ _ _ s1, hc1 _ _ (by simp), World.cell?_alloc_at _ _ _ _ rfl]
  have z0 : w2.cell? ⟨w.heap.size, 0, none⟩ = some (.int .i64 0) := e0 0
  have z1 : w2.cell? ⟨w.heap.size, 1, none⟩ = some (.int .i64 0) := e0 1
  have z2 : w2.cell? ⟨w.heap.size, 2, none⟩ = some (.slice none 0 0) := e0 2
  have z3 : w2.cell? ⟨w.heap.size, 3, none⟩ = some (.bool false) := e0 3
  refine bodyPost_ret (v := .tuple #[.agg #[.int .i64 0, .int .i64 23, .slice none 0 0, .bool false], .int .u64 16777215, .bool true]) (by simp [results, Tryz.results32, go_sem, z0, z1, z2, z3]) rfl ⟨m, d, rfl, ?_, ⟨by simp [SixK], ?_, by decide⟩⟩
  · have hq := ((Below.refl w.heap.size w).alloc (Nat.le_refl _) _).trans (B1.out.mono (by simp))
    have hr := (hq.alloc (by omega) _).trans (B2.out.mono (by simp; omega))
    exact (((hr.setCell (p := ⟨w.heap.size, 0, none⟩) (Nat.le_refl _) _).setCell (p := ⟨w.heap.size, 1, none⟩) (Nat.le_refl _) _).setCell (p := ⟨w.heap.size, 2, none⟩) (Nat.le_refl _) _).setCell (p := ⟨w.heap.size, 3, none⟩) (Nat.le_refl _) _
  · rw [size4]
    have Hm := hm1.out
    have Hd := hd1.out
    simp only [World.size_alloc] at Hm Hd
    exact .inl rfl


theorem full_3_num : Fs.fullB (kind 1 31 [] false) = (4294967294, 0) := by decide +kernel
theorem full_3_eq : Fs.full (kind 1 31 [] false) = 4294967294 := by decide +kernel
theorem full_3 (w : World) {g m d : Nat} (h6 : SixAt w g m d) : Calls Tryz.prog 24 #[.agg #[.int .i64 1, .int .i64 31, .slice none 0 0, .bool false]] w fun e w' => e = .returned (.tuple #[.int .u64 4294967294, .int .i64 0]) ∧ Below w.heap.size w w' := by
  have h := field_Full w 1 31 none 0 [] false (by decide) (by decide) (by decide) (by decide) (by decide) (by decide) (names_none _ _) (by simp)
  rw [full_3_num] at h; exact h
set_option maxHeartbeats 1000000 in
theorem six_3 (n : Nat) (w : World) (hn : n < 256) (hT : Tabs w) (hi : n % 6 = 3) : Calls Tryz.prog 32 #[.int .u8 n] w fun e w' => ∃ m d : Nat,
    e = .returned (.tuple #[.agg #[.int .i64 1, .int .i64 31, .slice none 0 0, .bool false], .int .u64 4294967294, .bool true]) ∧ Below w.heap.size w w' ∧ KindAt w' 3 1 31 none 0 [] false := by
  have HT := Lib.hid hT; clear hT
  go_enter Tryz.func32, Tryz.ntmps32
  go_wp2_with (first
    | (go_at_call 30; (with_reducible refine (field_Six _ (HT.out.alloc _)).mono ?_); rintro e w1 ⟨g, m, d, rfl, hb1, h6, hm, hd⟩
       have B1 := Lib.hid hb1; have S1 := Lib.hid h6; have D := Lib.hid (And.intro (Eq.refl m) (Eq.refl d)); obtain ⟨hc1, hf1⟩ := bcell hb1
       have s1 : w.heap.size < w1.heap.size := by have := hb1.size; simp at this; omega
       have hg := h6.lt; have c0 : w1.cell? ⟨g, 12, none⟩ = some (.int .i64 1) := h6.cells 12 _ rfl; have c1 : w1.cell? ⟨g, 13, none⟩ = some (.int .i64 31) := h6.cells 13 _ rfl; have c2 : w1.cell? ⟨g, 14, none⟩ = some (.slice none 0 0) := h6.cells 14 _ rfl; have c3 : w1.cell? ⟨g, 15, none⟩ = some (.bool false) := h6.cells 15 _ rfl; have hm1 := Lib.hid hm; have hd1 := Lib.hid hd; clear hb1 h6 hm hd)
    | (go_at_call 24; (with_reducible refine (full_3 _ (S1.out.grow ((Below.refl _ _).alloc (Nat.le_refl _) _))).mono ?_); rintro e w2 ⟨rfl, hb2⟩
       have B2 := Lib.hid hb2; have S2 := Lib.hid ((S1.out.grow ((Below.refl _ _).alloc (Nat.le_refl _) _)).grow hb2); obtain ⟨hc2, hf2⟩ := bcell hb2
       have s2 : w1.heap.size < w2.heap.size := by have := hb2.size; simp at this; omega
       clear hb2))
  have e0 : ∀ j, w2.cell? ⟨w.heap.size, j, none⟩ = (#[.int .i64 0, .int .i64 0, .slice none 0 0, .bool false] : Array Value)[j]? := fun j => by rw [hc2 _ _ (by simp; omega), World.cell?_alloc_past _ _ _ s1, hc1 _ _ (by simp), World.cell?_alloc_at _ _ _ _ rfl]
  have z0 : w2.cell? ⟨w.heap.size, 0, none⟩ = some (.int .i64 0) := e0 0
  have z1 : w2.cell? ⟨w.heap.size, 1, none⟩ = some (.int .i64 0) := e0 1
  have z2 : w2.cell? ⟨w.heap.size, 2, none⟩ = some (.slice none 0 0) := e0 2
  have z3 : w2.cell? ⟨w.heap.size, 3, none⟩ = some (.bool false) := e0 3
  refine bodyPost_ret (v := .tuple #[.agg #[.int .i64 1, .int .i64 31, .slice none 0 0, .bool false], .int .u64 4294967294, .bool true]) (by simp [results, Tryz.results32, go_sem, z0, z1, z2, z3]) rfl ⟨m, d, rfl, ?_, ⟨by simp [SixK], ?_, by decide⟩⟩
  · have hq := ((Below.refl w.heap.size w).alloc (Nat.le_refl _) _).trans (B1.out.mono (by simp))
    have hr := (hq.alloc (by omega) _).trans (B2.out.mono (by simp; omega))
    exact (((hr.setCell (p := ⟨w.heap.size, 0, none⟩) (Nat.le_refl _) _).setCell (p := ⟨w.heap.size, 1, none⟩) (Nat.le_refl _) _).setCell (p := ⟨w.heap.size, 2, none⟩) (Nat.le_refl _) _).setCell (p := ⟨w.heap.size, 3, none⟩) (Nat.le_refl _) _
  · rw [size4]
    have Hm := hm1.out
    have Hd := hd1.out
    simp only [World.size_alloc] at Hm Hd
    exact .inl rfl


theorem full_4_num : Fs.fullB (kind 1 12 monthsB false) = (8190, 0) := by decide +kernel
theorem full_4_eq : Fs.full (kind 1 12 monthsB false) = 8190 := by decide +kernel
theorem full_4 (w : World) {g m d : Nat} (h6 : SixAt w g m d) : Calls Tryz.prog 24 #[.agg #[.int .i64 1, .int .i64 12, .slice (some ⟨m, 0, none⟩) 12 12, .bool false]] w fun e w' => e = .returned (.tuple #[.int .u64 8190, .int .i64 0]) ∧ Below w.heap.size w w' := by
  have h := field_Full w 1 12 (some ⟨m, 0, none⟩) 12 monthsB false (by decide) (by decide) (by decide) (by decide) (by decide) (by decide) (h6.months) months_short
  rw [full_4_num] at h; exact h
set_option maxHeartbeats 1000000 in
theorem six_4 (n : Nat) (w : World) (hn : n < 256) (hT : Tabs w) (hi : n % 6 = 4) : Calls Tryz.prog 32 #[.int .u8 n] w fun e w' => ∃ m d : Nat,
    e = .returned (.tuple #[.agg #[.int .i64 1, .int .i64 12, .slice (some ⟨m, 0, none⟩) 12 12, .bool false], .int .u64 8190, .bool true]) ∧ Below w.heap.size w w' ∧ KindAt w' 4 1 12 (some ⟨m, 0, none⟩) 12 monthsB false := by
  have HT := Lib.hid hT; clear hT
  go_enter Tryz.func32, Tryz.ntmps32
  go_wp2_with (first
    | (go_at_call 30; (with_reducible refine (field_Six _ (HT.out.alloc _)).mono ?_); rintro e w1 ⟨g, m, d, rfl, hb1, h6, hm, hd⟩
       have B1 := Lib.hid hb1; have S1 := Lib.hid h6; have D := Lib.hid (And.intro (Eq.refl m) (Eq.refl d)); obtain ⟨hc1, hf1⟩ := bcell hb1
       have s1 : w.heap.size < w1.heap.size := by have := hb1.size; simp at this; omega
       have hg := h6.lt; have c0 : w1.cell? ⟨g, 16, none⟩ = some (.int .i64 1) := h6.cells 16 _ rfl; have c1 : w1.cell? ⟨g, 17, none⟩ = some (.int .i64 12) := h6.cells 17 _ rfl; have c2 : w1.cell? ⟨g, 18, none⟩ = some (.slice (some ⟨m, 0, none⟩) 12 12) := h6.cells 18 _ rfl; have c3 : w1.cell? ⟨g, 19, none⟩ = some (.bool false) := h6.cells 19 _ rfl; have hm1 := Lib.hid hm; have hd1 := Lib.hid hd; clear hb1 h6 hm hd)
    | (go_at_call 24; (with_reducible refine (full_4 _ (S1.out.grow ((Below.refl _ _).alloc (Nat.le_refl _) _))).mono ?_); rintro e w2 ⟨rfl, hb2⟩
       have B2 := Lib.hid hb2; have S2 := Lib.hid ((S1.out.grow ((Below.refl _ _).alloc (Nat.le_refl _) _)).grow hb2); obtain ⟨hc2, hf2⟩ := bcell hb2
       have s2 : w1.heap.size < w2.heap.size := by have := hb2.size; simp at this; omega
       clear hb2))
  have e0 : ∀ j, w2.cell? ⟨w.heap.size, j, none⟩ = (#[.int .i64 0, .int .i64 0, .slice none 0 0, .bool false] : Array Value)[j]? := fun j => by rw [hc2 _ _ (by simp; omega), World.cell?_alloc_past _ _ _ s1, hc1 _ _ (by simp), World.cell?_alloc_at _ _ _ _ rfl]
  have z0 : w2.cell? ⟨w.heap.size, 0, none⟩ = some (.int .i64 0) := e0 0
  have z1 : w2.cell? ⟨w.heap.size, 1, none⟩ = some (.int .i64 0) := e0 1
  have z2 : w2.cell? ⟨w.heap.size, 2, none⟩ = some (.slice none 0 0) := e0 2
  have z3 : w2.cell? ⟨w.heap.size, 3, none⟩ = some (.bool false) := e0 3
  refine bodyPost_ret (v := .tuple #[.agg #[.int .i64 1, .int .i64 12, .slice (some ⟨m, 0, none⟩) 12 12, .bool false], .int .u64 8190, .bool true]) (by simp [results, Tryz.results32, go_sem, z0, z1, z2, z3]) rfl ⟨m, d, rfl, ?_, ⟨by simp [SixK], ?_, by decide⟩⟩
  · have hq := ((Below.refl w.heap.size w).alloc (Nat.le_refl _) _).trans (B1.out.mono (by simp))
    have hr := (hq.alloc (by omega) _).trans (B2.out.mono (by simp; omega))
    exact (((hr.setCell (p := ⟨w.heap.size, 0, none⟩) (Nat.le_refl _) _).setCell (p := ⟨w.heap.size, 1, none⟩) (Nat.le_refl _) _).setCell (p := ⟨w.heap.size, 2, none⟩) (Nat.le_refl _) _).setCell (p := ⟨w.heap.size, 3, none⟩) (Nat.le_refl _) _
  · rw [size4]
    have Hm := hm1.out
    have Hd := hd1.out
    simp only [World.size_alloc] at Hm Hd
    exact ((((S2.out.months).setCell _ (fun a ha => by cases ha; simp; omega)).setCell _ (fun a ha => by cases ha; simp; omega)).setCell _ (fun a ha => by cases ha; simp; omega)).setCell _ (fun a ha => by cases ha; simp; omega)


theorem full_5_num : Fs.fullB (kind 0 6 daysB true) = (127, 0) := by decide +kernel
theorem full_5_eq : Fs.full (kind 0 6 daysB true) = 127 := by decide +kernel
theorem full_5 (w : World) {g m d : Nat} (h6 : SixAt w g m d) : Calls Tryz.prog 24 #[.agg #[.int .i64 0, .int .i64 6, .slice (some ⟨d, 0, none⟩) 7 7, .bool true]] w fun e w' => e = .returned (.tuple #[.int .u64 127, .int .i64 0]) ∧ Below w.heap.size w w' := by
  have h := field_Full w 0 6 (some ⟨d, 0, none⟩) 7 daysB true (by decide) (by decide) (by decide) (by decide) (by decide) (by decide) (h6.days) days_short
  rw [full_5_num] at h; exact h
set_option maxHeartbeats 1000000 in
theorem six_5 (n : Nat) (w : World) (hn : n < 256) (hT : Tabs w) (hi : n % 6 = 5) : Calls Tryz.prog 32 #[.int .u8 n] w fun e w' => ∃ m d : Nat,
    e = .returned (.tuple #[.agg #[.int .i64 0, .int .i64 6, .slice (some ⟨d, 0, none⟩) 7 7, .bool true], .int .u64 127, .bool true]) ∧ Below w.heap.size w w' ∧ KindAt w' 5 0 6 (some ⟨d, 0, none⟩) 7 daysB true := by
  have HT := Lib.hid hT; clear hT
  go_enter Tryz.func32, Tryz.ntmps32
  go_wp2_with (first
    | (go_at_call 30; (with_reducible refine (field_Six _ (HT.out.alloc _)).mono ?_); rintro e w1 ⟨g, m, d, rfl, hb1, h6, hm, hd⟩
       have B1 := Lib.hid hb1; have S1 := Lib.hid h6; have D := Lib.hid (And.intro (Eq.refl m) (Eq.refl d)); obtain ⟨hc1, hf1⟩ := bcell hb1
       have s1 : w.heap.size < w1.heap.size := by have := hb1.size; simp at this; omega
       have hg := h6.lt; have c0 : w1.cell? ⟨g, 20, none⟩ = some (.int .i64 0) := h6.cells 20 _ rfl; have c1 : w1.cell? ⟨g, 21, none⟩ = some (.int .i64 6) := h6.cells 21 _ rfl; have c2 : w1.cell? ⟨g, 22, none⟩ = some (.slice (some ⟨d, 0, none⟩) 7 7) := h6.cells 22 _ rfl; have c3 : w1.cell? ⟨g, 23, none⟩ = some (.bool true) := h6.cells 23 _ rfl; have hm1 := Lib.hid hm; have hd1 := Lib.hid hd; clear hb1 h6 hm hd)
    | (go_at_call 24; (with_reducible refine (full_5 _ (S1.out.grow ((Below.refl _ _).alloc (Nat.le_refl _) _))).mono ?_); rintro e w2 ⟨rfl, hb2⟩
       have B2 := Lib.hid hb2; have S2 := Lib.hid ((S1.out.grow ((Below.refl _ _).alloc (Nat.le_refl _) _)).grow hb2); obtain ⟨hc2, hf2⟩ := bcell hb2
       have s2 : w1.heap.size < w2.heap.size := by have := hb2.size; simp at this; omega
       clear hb2))
  have e0 : ∀ j, w2.cell? ⟨w.heap.size, j, none⟩ = (#[.int .i64 0, .int .i64 0, .slice none 0 0, .bool false] : Array Value)[j]? := fun j => by rw [hc2 _ _ (by simp; omega), World.cell?_alloc_past _ _ _ s1, hc1 _ _ (by simp), World.cell?_alloc_at _ _ _ _ rfl]
  have z0 : w2.cell? ⟨w.heap.size, 0, none⟩ = some (.int .i64 0) := e0 0
  have z1 : w2.cell? ⟨w.heap.size, 1, none⟩ = some (.int .i64 0) := e0 1
  have z2 : w2.cell? ⟨w.heap.size, 2, none⟩ = some (.slice none 0 0) := e0 2
  have z3 : w2.cell? ⟨w.heap.size, 3, none⟩ = some (.bool false) := e0 3
  refine bodyPost_ret (v := .tuple #[.agg #[.int .i64 0, .int .i64 6, .slice (some ⟨d, 0, none⟩) 7 7, .bool true], .int .u64 127, .bool true]) (by simp [results, Tryz.results32, go_sem, z0, z1, z2, z3]) rfl ⟨m, d, rfl, ?_, ⟨by simp [SixK], ?_, by decide⟩⟩
  · have hq := ((Below.refl w.heap.size w).alloc (Nat.le_refl _) _).trans (B1.out.mono (by simp))
    have hr := (hq.alloc (by omega) _).trans (B2.out.mono (by simp; omega))
    exact (((hr.setCell (p := ⟨w.heap.size, 0, none⟩) (Nat.le_refl _) _).setCell (p := ⟨w.heap.size, 1, none⟩) (Nat.le_refl _) _).setCell (p := ⟨w.heap.size, 2, none⟩) (Nat.le_refl _) _).setCell (p := ⟨w.heap.size, 3, none⟩) (Nat.le_refl _) _
  · rw [size4]
    have Hm := hm1.out
    have Hd := hd1.out
    simp only [World.size_alloc] at Hm Hd
    exact ((((S2.out.days).setCell _ (fun a ha => by cases ha; simp; omega)).setCell _ (fun a ha => by cases ha; simp; omega)).setCell _ (fun a ha => by cases ha; simp; omega)).setCell _ (fun a ha => by cases ha; simp; omega)

end Go.Proofs.YtfhcnndleaoobaaGreatDoor
