/-
  The program's text: the numbers of an item, as an iterator.
-/
import Derived.Test.YtjnlgaeedcklaaaGreatDoorFRd7
import Derived.Test.YtjnlgaeedcklaaaGreatDoorFRef8
import Derived.BigRegion
import Derived.Deep.DeepCutAuto
set_option linter.unusedVariables false
set_option linter.unusedSimpArgs false
namespace Go.Proofs.YtjnlgaeedcklaaaGreatDoor
open Go.RowKit

/-- What numbers returns: a function that has captured the bounds, the step and the kind. -/
def NumsR (w : World) (lo hi : Int) (nm : Value) (week : Bool) (L H S : Int) (e : Ending) (w' : World) : Prop :=
  ∃ bl bh bs bp : Nat, e = .returned (.func (.func 105) #[] #[.pointer (some ⟨bl, 0, none⟩), .pointer (some ⟨bh, 0, none⟩), .pointer (some ⟨bs, 0, none⟩), .pointer (some ⟨bp, 0, none⟩)]) ∧
    Blk w' bl 3 #[.int .i64 L] ∧ Blk w' bh 3 #[.int .i64 H] ∧ Blk w' bs 3 #[.int .i64 S] ∧ Blk w' bp 66 #[.int .i64 lo, .int .i64 hi, nm, .bool week] ∧ Below w.heap.size w w' ∧
    w.heap.size ≤ bl ∧ w.heap.size ≤ bh ∧ w.heap.size ≤ bs ∧ w.heap.size ≤ bp

theorem three0 (W : World) (t : TypeId) (cs : Array Value) (y z : Obj) : Blk (((W.alloc (.cells cs t)).alloc y).alloc z).drew W.heap.size t cs := (((Blk.new W t cs).alloc y).alloc z).drew
theorem three1 (W : World) (t : TypeId) (cs : Array Value) (x z : Obj) : Blk (((W.alloc x).alloc (.cells cs t)).alloc z).drew (W.heap.size + 1) t cs := by
  have := (Blk.new (W.alloc x) t cs).alloc z
  simp only [World.size_alloc] at this
  exact this
theorem three2 (W : World) (t : TypeId) (cs : Array Value) (x y : Obj) : Blk (((W.alloc x).alloc y).alloc (.cells cs t)).drew (W.heap.size + 1 + 1) t cs := by
  have := Blk.new ((W.alloc x).alloc y) t cs
  simp only [World.size_alloc] at this
  exact this
/-- Three new variables. -/
def Three (W0 : World) (n m k : Int) (s5 s6 s7 : Value) (wx : World) : Prop :=
  ∃ bl bh bs : Nat, s5 = .pointer (some ⟨bl, 0, none⟩) ∧ s6 = .pointer (some ⟨bh, 0, none⟩) ∧ s7 = .pointer (some ⟨bs, 0, none⟩) ∧ Blk wx bl 3 #[.int .i64 n] ∧ Blk wx bh 3 #[.int .i64 m] ∧ Blk wx bs 3 #[.int .i64 k] ∧
    bl ≠ bh ∧ bl ≠ bs ∧ bh ≠ bs ∧ W0.heap.size ≤ bl ∧ W0.heap.size ≤ bh ∧ W0.heap.size ≤ bs ∧ Kp (fun _ => False) W0 wx

set_option maxRecDepth 100000 in
set_option maxHeartbeats 4000000 in
theorem nums_star_none (lo hi : Nat) (nm : Value) (week : Bool) (w : World) (h1 : lo ≤ 62) (h2 : hi ≤ 62) :
    Calls Tryz.prog 66 #[.agg #[.int .i64 lo, .int .i64 hi, nm, .bool week], .agg #[.bool true, .int .i64 0, .int .i64 0, .bool false, .int .i64 0, .int .i64 0, .bool false, .int .i64 0, .int .i64 0, .bool false]] w (NumsR w lo hi nm week lo hi 1) := by
  have hmf : ∀ (fn : Fn) (first cap : Array Value) (w : World), (Instr.makeFunc fn first cap).run Tryz.prog w = .ok (.func fn first cap) w := fun _ _ _ _ => rfl
  obtain ⟨W0, hW0⟩ : ∃ W0 : World, (w.alloc (.cells #[.int .i64 lo, .int .i64 hi, nm, .bool week] 66)).alloc (.cells #[.bool true, .int .i64 0, .int .i64 0, .bool false, .int .i64 0, .int .i64 0, .bool false, .int .i64 0, .int .i64 0, .bool false] 120) = W0 := ⟨_, rfl⟩
  have HP0 : Hid (Blk W0 w.heap.size 66 #[.int .i64 lo, .int .i64 hi, nm, .bool week]) := Lib.hid (hW0 ▸ (Blk.new w _ _).alloc _)
  have HI0 : Hid (Blk W0 (w.heap.size + 1) 120 #[.bool true, .int .i64 0, .int .i64 0, .bool false, .int .i64 0, .int .i64 0, .bool false, .int .i64 0, .int .i64 0, .bool false]) := Lib.hid (hW0 ▸ (by have := Blk.new (w.alloc (.cells #[.int .i64 lo, .int .i64 hi, nm, .bool week] 66)) 120 #[.bool true, .int .i64 0, .int .i64 0, .bool false, .int .i64 0, .int .i64 0, .bool false, .int .i64 0, .int .i64 0, .bool false]; simpa using this))
  have Hbw0 : Hid (Below w.heap.size w W0) := Lib.hid (hW0 ▸ ((Below.refl _ _).alloc (Nat.le_refl _) _).alloc (by simp) _)
  have hsz0 : w.heap.size + 2 = W0.heap.size := by rw [← hW0]; simp
  have HW0 := Lib.hid hW0
  have Hsz := Lib.hid hsz0
  have hlt0 : w.heap.size + 1 < W0.heap.size := by omega
  clear hW0 hsz0
  have d0 : W0.cell? ⟨w.heap.size + 1, 1, none⟩ = some (.int .i64 0) := HI0.out.cell 1
  have d1 : ∀ x, (W0.alloc x).cell? ⟨w.heap.size + 1, 1, none⟩ = some (.int .i64 0) := fun x => (World.cell?_alloc_past _ _ _ hlt0).trans d0
  have d2 : ∀ x y, ((W0.alloc x).alloc y).cell? ⟨w.heap.size + 1, 1, none⟩ = some (.int .i64 0) := fun x y => (World.cell?_alloc_past _ _ _ (by simp; omega)).trans (d1 x)
  have d3 : ∀ x y z, (((W0.alloc x).alloc y).alloc z).cell? ⟨w.heap.size + 1, 1, none⟩ = some (.int .i64 0) := fun x y z => (World.cell?_alloc_past _ _ _ (by simp; omega)).trans (d2 x y)
  go_enter Tryz.func66, Tryz.ntmps66
  go_upto_region 1 with fail
  rw [HW0.out]
  go_cut [5, 6, 7] (fun s5 s6 s7 wx => Three W0 0 0 1 s5 s6 s7 wx)
  case first =>
    go_region
    all_goals
      go_wp2_with fail
      go_meet
      refine ⟨_, _, _, rfl, rfl, rfl, ?_, ?_, ?_, by omega, by omega, by omega, by omega, by omega, by omega, ((((Kp.refl _ _).alloc _).alloc _).alloc _).drew⟩
    all_goals (first | exact three0 _ _ _ _ _ | exact three1 _ _ _ _ _ | exact three2 _ _ _ _ _)
  case rest =>
    obtain ⟨bl, bh, bs, rfl, rfl, rfl, hL, hH, hS, n1, n2, n3, l1, l2, l3, hk⟩ := hcut
    have HL := Lib.hid hL
    have HH := Lib.hid hH
    have HS := Lib.hid hS
    have HK := Lib.hid hk
    have HPc : Hid (Blk wc w.heap.size 66 #[.int .i64 lo, .int .i64 hi, nm, .bool week]) := Lib.hid (HP0.out.kp hk (fun h => h))
    have HIc : Hid (Blk wc (w.heap.size + 1) 120 #[.bool true, .int .i64 0, .int .i64 0, .bool false, .int .i64 0, .int .i64 0, .bool false, .int .i64 0, .int .i64 0, .bool false]) := Lib.hid (HI0.out.kp hk (fun h => h))
    have Hbw : Hid (Below w.heap.size w wc) := Lib.hid (Kp.below Hbw0.out hk (by omega) (fun i h => h.elim))
    obtain ⟨hcL, hfL⟩ := HL.out.facts
    obtain ⟨hcH, hfH⟩ := HH.out.facts
    obtain ⟨hcS, hfS⟩ := HS.out.facts
    obtain ⟨hcP, hfP⟩ := HPc.out.facts
    obtain ⟨hcI, hfI⟩ := HIc.out.facts
    clear hL hH hS hk d0 d1 d2 d3
    go_wp2
    go_region
    go_wp2
    go_ret
    exact ⟨bl, bh, bs, w.heap.size, rfl, (((HL.out.set_ 0 _)).far (by show bl ≠ bh; omega) _).drew, (((HH.out).far (by show bh ≠ bl; omega) _).set_ 0 _).drew, ((((HS.out).far (by show bs ≠ bl; omega) _)).far (by show bs ≠ bh; omega) _).drew, ((((HPc.out).far (by show w.heap.size ≠ bl; omega) _)).far (by show w.heap.size ≠ bh; omega) _).drew, ((Hbw.out.setCell (by show _ ≤ bl; omega) _).setCell (by show _ ≤ bh; omega) _).drew, by omega, by omega, by omega, Nat.le_refl _⟩

set_option maxRecDepth 100000 in
set_option maxHeartbeats 4000000 in
theorem nums_star_step (lo hi : Nat) (nm : Value) (week : Bool) (q c : Nat) (w : World) (h1 : lo ≤ 62) (h2 : hi ≤ 62) :
    Calls Tryz.prog 66 #[.agg #[.int .i64 lo, .int .i64 hi, nm, .bool week], .agg #[.bool true, .int .i64 0, .int .i64 0, .bool false, .int .i64 0, .int .i64 0, .bool false, .int .i64 q, .int .i64 c, .bool true]] w (NumsR w lo hi nm week lo hi q) := by
  have hmf : ∀ (fn : Fn) (first cap : Array Value) (w : World), (Instr.makeFunc fn first cap).run Tryz.prog w = .ok (.func fn first cap) w := fun _ _ _ _ => rfl
  obtain ⟨W0, hW0⟩ : ∃ W0 : World, (w.alloc (.cells #[.int .i64 lo, .int .i64 hi, nm, .bool week] 66)).alloc (.cells #[.bool true, .int .i64 0, .int .i64 0, .bool false, .int .i64 0, .int .i64 0, .bool false, .int .i64 q, .int .i64 c, .bool true] 120) = W0 := ⟨_, rfl⟩
  have HP0 : Hid (Blk W0 w.heap.size 66 #[.int .i64 lo, .int .i64 hi, nm, .bool week]) := Lib.hid (hW0 ▸ (Blk.new w _ _).alloc _)
  have HI0 : Hid (Blk W0 (w.heap.size + 1) 120 #[.bool true, .int .i64 0, .int .i64 0, .bool false, .int .i64 0, .int .i64 0, .bool false, .int .i64 q, .int .i64 c, .bool true]) := Lib.hid (hW0 ▸ (by have := Blk.new (w.alloc (.cells #[.int .i64 lo, .int .i64 hi, nm, .bool week] 66)) 120 #[.bool true, .int .i64 0, .int .i64 0, .bool false, .int .i64 0, .int .i64 0, .bool false, .int .i64 q, .int .i64 c, .bool true]; simpa using this))
  have Hbw0 : Hid (Below w.heap.size w W0) := Lib.hid (hW0 ▸ ((Below.refl _ _).alloc (Nat.le_refl _) _).alloc (by simp) _)
  have hsz0 : w.heap.size + 2 = W0.heap.size := by rw [← hW0]; simp
  have HW0 := Lib.hid hW0
  have Hsz := Lib.hid hsz0
  have hlt0 : w.heap.size + 1 < W0.heap.size := by omega
  clear hW0 hsz0
  have d0 : W0.cell? ⟨w.heap.size + 1, 1, none⟩ = some (.int .i64 0) := HI0.out.cell 1
  have d1 : ∀ x, (W0.alloc x).cell? ⟨w.heap.size + 1, 1, none⟩ = some (.int .i64 0) := fun x => (World.cell?_alloc_past _ _ _ hlt0).trans d0
  have d2 : ∀ x y, ((W0.alloc x).alloc y).cell? ⟨w.heap.size + 1, 1, none⟩ = some (.int .i64 0) := fun x y => (World.cell?_alloc_past _ _ _ (by simp; omega)).trans (d1 x)
  have d3 : ∀ x y z, (((W0.alloc x).alloc y).alloc z).cell? ⟨w.heap.size + 1, 1, none⟩ = some (.int .i64 0) := fun x y z => (World.cell?_alloc_past _ _ _ (by simp; omega)).trans (d2 x y)
  go_enter Tryz.func66, Tryz.ntmps66
  go_upto_region 1 with fail
  rw [HW0.out]
  go_cut [5, 6, 7] (fun s5 s6 s7 wx => Three W0 0 0 1 s5 s6 s7 wx)
  case first =>
    go_region
    all_goals
      go_wp2_with fail
      go_meet
      refine ⟨_, _, _, rfl, rfl, rfl, ?_, ?_, ?_, by omega, by omega, by omega, by omega, by omega, by omega, ((((Kp.refl _ _).alloc _).alloc _).alloc _).drew⟩
    all_goals (first | exact three0 _ _ _ _ _ | exact three1 _ _ _ _ _ | exact three2 _ _ _ _ _)
  case rest =>
    obtain ⟨bl, bh, bs, rfl, rfl, rfl, hL, hH, hS, n1, n2, n3, l1, l2, l3, hk⟩ := hcut
    have HL := Lib.hid hL
    have HH := Lib.hid hH
    have HS := Lib.hid hS
    have HK := Lib.hid hk
    have HPc : Hid (Blk wc w.heap.size 66 #[.int .i64 lo, .int .i64 hi, nm, .bool week]) := Lib.hid (HP0.out.kp hk (fun h => h))
    have HIc : Hid (Blk wc (w.heap.size + 1) 120 #[.bool true, .int .i64 0, .int .i64 0, .bool false, .int .i64 0, .int .i64 0, .bool false, .int .i64 q, .int .i64 c, .bool true]) := Lib.hid (HI0.out.kp hk (fun h => h))
    have Hbw : Hid (Below w.heap.size w wc) := Lib.hid (Kp.below Hbw0.out hk (by omega) (fun i h => h.elim))
    obtain ⟨hcL, hfL⟩ := HL.out.facts
    obtain ⟨hcH, hfH⟩ := HH.out.facts
    obtain ⟨hcS, hfS⟩ := HS.out.facts
    obtain ⟨hcP, hfP⟩ := HPc.out.facts
    obtain ⟨hcI, hfI⟩ := HIc.out.facts
    clear hL hH hS hk d0 d1 d2 d3
    go_wp2
    go_region
    go_wp2
    go_ret
    exact ⟨bl, bh, bs, w.heap.size, rfl, (((((HL.out.set_ 0 _)).far (by show bl ≠ bh; omega) _).drew)).far (by show bl ≠ bs; omega) _, (((((HH.out).far (by show bh ≠ bl; omega) _).set_ 0 _).drew)).far (by show bh ≠ bs; omega) _, (((((HS.out).far (by show bs ≠ bl; omega) _)).far (by show bs ≠ bh; omega) _).drew).set_ 0 _, ((((((HPc.out).far (by show w.heap.size ≠ bl; omega) _)).far (by show w.heap.size ≠ bh; omega) _).drew)).far (by show w.heap.size ≠ bs; omega) _, (((Hbw.out.setCell (by show _ ≤ bl; omega) _).setCell (by show _ ≤ bh; omega) _).drew).setCell (by show _ ≤ bs; omega) _, by omega, by omega, by omega, Nat.le_refl _⟩

set_option maxRecDepth 100000 in
set_option maxHeartbeats 4000000 in
theorem nums_one_none (lo hi : Nat) (nm : Value) (week : Bool) (n a : Nat) (w : World) (h1 : lo ≤ 62) (h2 : hi ≤ 62) :
    Calls Tryz.prog 66 #[.agg #[.int .i64 lo, .int .i64 hi, nm, .bool week], .agg #[.bool false, .int .i64 n, .int .i64 a, .bool true, .int .i64 0, .int .i64 0, .bool false, .int .i64 0, .int .i64 0, .bool false]] w (NumsR w lo hi nm week n n 1) := by
  have hmf : ∀ (fn : Fn) (first cap : Array Value) (w : World), (Instr.makeFunc fn first cap).run Tryz.prog w = .ok (.func fn first cap) w := fun _ _ _ _ => rfl
  obtain ⟨W0, hW0⟩ : ∃ W0 : World, (w.alloc (.cells #[.int .i64 lo, .int .i64 hi, nm, .bool week] 66)).alloc (.cells #[.bool false, .int .i64 n, .int .i64 a, .bool true, .int .i64 0, .int .i64 0, .bool false, .int .i64 0, .int .i64 0, .bool false] 120) = W0 := ⟨_, rfl⟩
  have HP0 : Hid (Blk W0 w.heap.size 66 #[.int .i64 lo, .int .i64 hi, nm, .bool week]) := Lib.hid (hW0 ▸ (Blk.new w _ _).alloc _)
  have HI0 : Hid (Blk W0 (w.heap.size + 1) 120 #[.bool false, .int .i64 n, .int .i64 a, .bool true, .int .i64 0, .int .i64 0, .bool false, .int .i64 0, .int .i64 0, .bool false]) := Lib.hid (hW0 ▸ (by have := Blk.new (w.alloc (.cells #[.int .i64 lo, .int .i64 hi, nm, .bool week] 66)) 120 #[.bool false, .int .i64 n, .int .i64 a, .bool true, .int .i64 0, .int .i64 0, .bool false, .int .i64 0, .int .i64 0, .bool false]; simpa using this))
  have Hbw0 : Hid (Below w.heap.size w W0) := Lib.hid (hW0 ▸ ((Below.refl _ _).alloc (Nat.le_refl _) _).alloc (by simp) _)
  have hsz0 : w.heap.size + 2 = W0.heap.size := by rw [← hW0]; simp
  have HW0 := Lib.hid hW0
  have Hsz := Lib.hid hsz0
  have hlt0 : w.heap.size + 1 < W0.heap.size := by omega
  clear hW0 hsz0
  have d0 : W0.cell? ⟨w.heap.size + 1, 1, none⟩ = some (.int .i64 ((n : Nat) : Int)) := HI0.out.cell 1
  have d1 : ∀ x, (W0.alloc x).cell? ⟨w.heap.size + 1, 1, none⟩ = some (.int .i64 ((n : Nat) : Int)) := fun x => (World.cell?_alloc_past _ _ _ hlt0).trans d0
  have d2 : ∀ x y, ((W0.alloc x).alloc y).cell? ⟨w.heap.size + 1, 1, none⟩ = some (.int .i64 ((n : Nat) : Int)) := fun x y => (World.cell?_alloc_past _ _ _ (by simp; omega)).trans (d1 x)
  have d3 : ∀ x y z, (((W0.alloc x).alloc y).alloc z).cell? ⟨w.heap.size + 1, 1, none⟩ = some (.int .i64 ((n : Nat) : Int)) := fun x y z => (World.cell?_alloc_past _ _ _ (by simp; omega)).trans (d2 x y)
  go_enter Tryz.func66, Tryz.ntmps66
  go_upto_region 1 with fail
  rw [HW0.out]
  go_cut [5, 6, 7] (fun s5 s6 s7 wx => Three W0 ((n : Nat) : Int) ((n : Nat) : Int) 1 s5 s6 s7 wx)
  case first =>
    go_region
    all_goals
      go_wp2_with fail
      go_meet
      refine ⟨_, _, _, rfl, rfl, rfl, ?_, ?_, ?_, by omega, by omega, by omega, by omega, by omega, by omega, ((((Kp.refl _ _).alloc _).alloc _).alloc _).drew⟩
    all_goals (first | exact three0 _ _ _ _ _ | exact three1 _ _ _ _ _ | exact three2 _ _ _ _ _)
  case rest =>
    obtain ⟨bl, bh, bs, rfl, rfl, rfl, hL, hH, hS, n1, n2, n3, l1, l2, l3, hk⟩ := hcut
    have HL := Lib.hid hL
    have HH := Lib.hid hH
    have HS := Lib.hid hS
    have HK := Lib.hid hk
    have HPc : Hid (Blk wc w.heap.size 66 #[.int .i64 lo, .int .i64 hi, nm, .bool week]) := Lib.hid (HP0.out.kp hk (fun h => h))
    have HIc : Hid (Blk wc (w.heap.size + 1) 120 #[.bool false, .int .i64 n, .int .i64 a, .bool true, .int .i64 0, .int .i64 0, .bool false, .int .i64 0, .int .i64 0, .bool false]) := Lib.hid (HI0.out.kp hk (fun h => h))
    have Hbw : Hid (Below w.heap.size w wc) := Lib.hid (Kp.below Hbw0.out hk (by omega) (fun i h => h.elim))
    obtain ⟨hcL, hfL⟩ := HL.out.facts
    obtain ⟨hcH, hfH⟩ := HH.out.facts
    obtain ⟨hcS, hfS⟩ := HS.out.facts
    obtain ⟨hcP, hfP⟩ := HPc.out.facts
    obtain ⟨hcI, hfI⟩ := HIc.out.facts
    clear hL hH hS hk d0 d1 d2 d3
    go_wp2
    go_ret
    exact ⟨bl, bh, bs, w.heap.size, rfl, HL.out, HH.out, HS.out, HPc.out, Hbw.out, by omega, by omega, by omega, Nat.le_refl _⟩

set_option maxRecDepth 100000 in
set_option maxHeartbeats 4000000 in
theorem nums_one_step (lo hi : Nat) (nm : Value) (week : Bool) (n a q c : Nat) (w : World) (h1 : lo ≤ 62) (h2 : hi ≤ 62) (h3 : n ≤ 1000) :
    Calls Tryz.prog 66 #[.agg #[.int .i64 lo, .int .i64 hi, nm, .bool week], .agg #[.bool false, .int .i64 n, .int .i64 a, .bool true, .int .i64 0, .int .i64 0, .bool false, .int .i64 q, .int .i64 c, .bool true]] w (NumsR w lo hi nm week n ((max n hi : Nat) : Int) q) := by
  have hmf : ∀ (fn : Fn) (first cap : Array Value) (w : World), (Instr.makeFunc fn first cap).run Tryz.prog w = .ok (.func fn first cap) w := fun _ _ _ _ => rfl
  obtain ⟨W0, hW0⟩ : ∃ W0 : World, (w.alloc (.cells #[.int .i64 lo, .int .i64 hi, nm, .bool week] 66)).alloc (.cells #[.bool false, .int .i64 n, .int .i64 a, .bool true, .int .i64 0, .int .i64 0, .bool false, .int .i64 q, .int .i64 c, .bool true] 120) = W0 := ⟨_, rfl⟩
  have HP0 : Hid (Blk W0 w.heap.size 66 #[.int .i64 lo, .int .i64 hi, nm, .bool week]) := Lib.hid (hW0 ▸ (Blk.new w _ _).alloc _)
  have HI0 : Hid (Blk W0 (w.heap.size + 1) 120 #[.bool false, .int .i64 n, .int .i64 a, .bool true, .int .i64 0, .int .i64 0, .bool false, .int .i64 q, .int .i64 c, .bool true]) := Lib.hid (hW0 ▸ (by have := Blk.new (w.alloc (.cells #[.int .i64 lo, .int .i64 hi, nm, .bool week] 66)) 120 #[.bool false, .int .i64 n, .int .i64 a, .bool true, .int .i64 0, .int .i64 0, .bool false, .int .i64 q, .int .i64 c, .bool true]; simpa using this))
  have Hbw0 : Hid (Below w.heap.size w W0) := Lib.hid (hW0 ▸ ((Below.refl _ _).alloc (Nat.le_refl _) _).alloc (by simp) _)
  have hsz0 : w.heap.size + 2 = W0.heap.size := by rw [← hW0]; simp
  have HW0 := Lib.hid hW0
  have Hsz := Lib.hid hsz0
  have hlt0 : w.heap.size + 1 < W0.heap.size := by omega
  clear hW0 hsz0
  have d0 : W0.cell? ⟨w.heap.size + 1, 1, none⟩ = some (.int .i64 ((n : Nat) : Int)) := HI0.out.cell 1
  have d1 : ∀ x, (W0.alloc x).cell? ⟨w.heap.size + 1, 1, none⟩ = some (.int .i64 ((n : Nat) : Int)) := fun x => (World.cell?_alloc_past _ _ _ hlt0).trans d0
  have d2 : ∀ x y, ((W0.alloc x).alloc y).cell? ⟨w.heap.size + 1, 1, none⟩ = some (.int .i64 ((n : Nat) : Int)) := fun x y => (World.cell?_alloc_past _ _ _ (by simp; omega)).trans (d1 x)
  have d3 : ∀ x y z, (((W0.alloc x).alloc y).alloc z).cell? ⟨w.heap.size + 1, 1, none⟩ = some (.int .i64 ((n : Nat) : Int)) := fun x y z => (World.cell?_alloc_past _ _ _ (by simp; omega)).trans (d2 x y)
  go_enter Tryz.func66, Tryz.ntmps66
  go_upto_region 1 with fail
  rw [HW0.out]
  go_cut [5, 6, 7] (fun s5 s6 s7 wx => Three W0 ((n : Nat) : Int) ((n : Nat) : Int) 1 s5 s6 s7 wx)
  case first =>
    go_region
    all_goals
      go_wp2_with fail
      go_meet
      refine ⟨_, _, _, rfl, rfl, rfl, ?_, ?_, ?_, by omega, by omega, by omega, by omega, by omega, by omega, ((((Kp.refl _ _).alloc _).alloc _).alloc _).drew⟩
    all_goals (first | exact three0 _ _ _ _ _ | exact three1 _ _ _ _ _ | exact three2 _ _ _ _ _)
  case rest =>
    obtain ⟨bl, bh, bs, rfl, rfl, rfl, hL, hH, hS, n1, n2, n3, l1, l2, l3, hk⟩ := hcut
    have HL := Lib.hid hL
    have HH := Lib.hid hH
    have HS := Lib.hid hS
    have HK := Lib.hid hk
    have HPc : Hid (Blk wc w.heap.size 66 #[.int .i64 lo, .int .i64 hi, nm, .bool week]) := Lib.hid (HP0.out.kp hk (fun h => h))
    have HIc : Hid (Blk wc (w.heap.size + 1) 120 #[.bool false, .int .i64 n, .int .i64 a, .bool true, .int .i64 0, .int .i64 0, .bool false, .int .i64 q, .int .i64 c, .bool true]) := Lib.hid (HI0.out.kp hk (fun h => h))
    have Hbw : Hid (Below w.heap.size w wc) := Lib.hid (Kp.below Hbw0.out hk (by omega) (fun i h => h.elim))
    obtain ⟨hcL, hfL⟩ := HL.out.facts
    obtain ⟨hcH, hfH⟩ := HH.out.facts
    obtain ⟨hcS, hfS⟩ := HS.out.facts
    obtain ⟨hcP, hfP⟩ := HPc.out.facts
    obtain ⟨hcI, hfI⟩ := HIc.out.facts
    clear hL hH hS hk d0 d1 d2 d3
    have hmx : ((max n hi : Nat) : Int) = max (n : Int) (hi : Int) := by omega
    have Hmx := Lib.hid hmx
    clear hmx
    go_wp2
    go_ret
    exact ⟨bl, bh, bs, w.heap.size, rfl, (((HL.out).far (by show bl ≠ bh; omega) _)).far (by show bl ≠ bs; omega) _, (by rw [Hmx.out]; exact ((HH.out.set_ 0 _)).far (by show bh ≠ bs; omega) _), ((HS.out).far (by show bs ≠ bh; omega) _).set_ 0 _, (((HPc.out).far (by show w.heap.size ≠ bh; omega) _)).far (by show w.heap.size ≠ bs; omega) _, (Hbw.out.setCell (by show _ ≤ bh; omega) _).setCell (by show _ ≤ bs; omega) _, by omega, by omega, by omega, Nat.le_refl _⟩

set_option maxRecDepth 100000 in
set_option maxHeartbeats 4000000 in
theorem nums_two_none (lo hi : Nat) (nm : Value) (week : Bool) (n a m b : Nat) (w : World) (h1 : lo ≤ 62) (h2 : hi ≤ 62) :
    Calls Tryz.prog 66 #[.agg #[.int .i64 lo, .int .i64 hi, nm, .bool week], .agg #[.bool false, .int .i64 n, .int .i64 a, .bool true, .int .i64 m, .int .i64 b, .bool true, .int .i64 0, .int .i64 0, .bool false]] w (NumsR w lo hi nm week n m 1) := by
  have hmf : ∀ (fn : Fn) (first cap : Array Value) (w : World), (Instr.makeFunc fn first cap).run Tryz.prog w = .ok (.func fn first cap) w := fun _ _ _ _ => rfl
  obtain ⟨W0, hW0⟩ : ∃ W0 : World, (w.alloc (.cells #[.int .i64 lo, .int .i64 hi, nm, .bool week] 66)).alloc (.cells #[.bool false, .int .i64 n, .int .i64 a, .bool true, .int .i64 m, .int .i64 b, .bool true, .int .i64 0, .int .i64 0, .bool false] 120) = W0 := ⟨_, rfl⟩
  have HP0 : Hid (Blk W0 w.heap.size 66 #[.int .i64 lo, .int .i64 hi, nm, .bool week]) := Lib.hid (hW0 ▸ (Blk.new w _ _).alloc _)
  have HI0 : Hid (Blk W0 (w.heap.size + 1) 120 #[.bool false, .int .i64 n, .int .i64 a, .bool true, .int .i64 m, .int .i64 b, .bool true, .int .i64 0, .int .i64 0, .bool false]) := Lib.hid (hW0 ▸ (by have := Blk.new (w.alloc (.cells #[.int .i64 lo, .int .i64 hi, nm, .bool week] 66)) 120 #[.bool false, .int .i64 n, .int .i64 a, .bool true, .int .i64 m, .int .i64 b, .bool true, .int .i64 0, .int .i64 0, .bool false]; simpa using this))
  have Hbw0 : Hid (Below w.heap.size w W0) := Lib.hid (hW0 ▸ ((Below.refl _ _).alloc (Nat.le_refl _) _).alloc (by simp) _)
  have hsz0 : w.heap.size + 2 = W0.heap.size := by rw [← hW0]; simp
  have HW0 := Lib.hid hW0
  have Hsz := Lib.hid hsz0
  have hlt0 : w.heap.size + 1 < W0.heap.size := by omega
  clear hW0 hsz0
  have d0 : W0.cell? ⟨w.heap.size + 1, 1, none⟩ = some (.int .i64 ((n : Nat) : Int)) := HI0.out.cell 1
  have d1 : ∀ x, (W0.alloc x).cell? ⟨w.heap.size + 1, 1, none⟩ = some (.int .i64 ((n : Nat) : Int)) := fun x => (World.cell?_alloc_past _ _ _ hlt0).trans d0
  have d2 : ∀ x y, ((W0.alloc x).alloc y).cell? ⟨w.heap.size + 1, 1, none⟩ = some (.int .i64 ((n : Nat) : Int)) := fun x y => (World.cell?_alloc_past _ _ _ (by simp; omega)).trans (d1 x)
  have d3 : ∀ x y z, (((W0.alloc x).alloc y).alloc z).cell? ⟨w.heap.size + 1, 1, none⟩ = some (.int .i64 ((n : Nat) : Int)) := fun x y z => (World.cell?_alloc_past _ _ _ (by simp; omega)).trans (d2 x y)
  go_enter Tryz.func66, Tryz.ntmps66
  go_upto_region 1 with fail
  rw [HW0.out]
  go_cut [5, 6, 7] (fun s5 s6 s7 wx => Three W0 ((n : Nat) : Int) ((n : Nat) : Int) 1 s5 s6 s7 wx)
  case first =>
    go_region
    all_goals
      go_wp2_with fail
      go_meet
      refine ⟨_, _, _, rfl, rfl, rfl, ?_, ?_, ?_, by omega, by omega, by omega, by omega, by omega, by omega, ((((Kp.refl _ _).alloc _).alloc _).alloc _).drew⟩
    all_goals (first | exact three0 _ _ _ _ _ | exact three1 _ _ _ _ _ | exact three2 _ _ _ _ _)
  case rest =>
    obtain ⟨bl, bh, bs, rfl, rfl, rfl, hL, hH, hS, n1, n2, n3, l1, l2, l3, hk⟩ := hcut
    have HL := Lib.hid hL
    have HH := Lib.hid hH
    have HS := Lib.hid hS
    have HK := Lib.hid hk
    have HPc : Hid (Blk wc w.heap.size 66 #[.int .i64 lo, .int .i64 hi, nm, .bool week]) := Lib.hid (HP0.out.kp hk (fun h => h))
    have HIc : Hid (Blk wc (w.heap.size + 1) 120 #[.bool false, .int .i64 n, .int .i64 a, .bool true, .int .i64 m, .int .i64 b, .bool true, .int .i64 0, .int .i64 0, .bool false]) := Lib.hid (HI0.out.kp hk (fun h => h))
    have Hbw : Hid (Below w.heap.size w wc) := Lib.hid (Kp.below Hbw0.out hk (by omega) (fun i h => h.elim))
    obtain ⟨hcL, hfL⟩ := HL.out.facts
    obtain ⟨hcH, hfH⟩ := HH.out.facts
    obtain ⟨hcS, hfS⟩ := HS.out.facts
    obtain ⟨hcP, hfP⟩ := HPc.out.facts
    obtain ⟨hcI, hfI⟩ := HIc.out.facts
    clear hL hH hS hk d0 d1 d2 d3
    go_wp2
    go_ret
    exact ⟨bl, bh, bs, w.heap.size, rfl, (HL.out).far (by show bl ≠ bh; omega) _, HH.out.set_ 0 _, (HS.out).far (by show bs ≠ bh; omega) _, (HPc.out).far (by show w.heap.size ≠ bh; omega) _, Hbw.out.setCell (by show _ ≤ bh; omega) _, by omega, by omega, by omega, Nat.le_refl _⟩

set_option maxRecDepth 100000 in
set_option maxHeartbeats 4000000 in
theorem nums_two_step (lo hi : Nat) (nm : Value) (week : Bool) (n a m b q c : Nat) (w : World) (h1 : lo ≤ 62) (h2 : hi ≤ 62) :
    Calls Tryz.prog 66 #[.agg #[.int .i64 lo, .int .i64 hi, nm, .bool week], .agg #[.bool false, .int .i64 n, .int .i64 a, .bool true, .int .i64 m, .int .i64 b, .bool true, .int .i64 q, .int .i64 c, .bool true]] w (NumsR w lo hi nm week n m q) := by
  have hmf : ∀ (fn : Fn) (first cap : Array Value) (w : World), (Instr.makeFunc fn first cap).run Tryz.prog w = .ok (.func fn first cap) w := fun _ _ _ _ => rfl
  obtain ⟨W0, hW0⟩ : ∃ W0 : World, (w.alloc (.cells #[.int .i64 lo, .int .i64 hi, nm, .bool week] 66)).alloc (.cells #[.bool false, .int .i64 n, .int .i64 a, .bool true, .int .i64 m, .int .i64 b, .bool true, .int .i64 q, .int .i64 c, .bool true] 120) = W0 := ⟨_, rfl⟩
  have HP0 : Hid (Blk W0 w.heap.size 66 #[.int .i64 lo, .int .i64 hi, nm, .bool week]) := Lib.hid (hW0 ▸ (Blk.new w _ _).alloc _)
  have HI0 : Hid (Blk W0 (w.heap.size + 1) 120 #[.bool false, .int .i64 n, .int .i64 a, .bool true, .int .i64 m, .int .i64 b, .bool true, .int .i64 q, .int .i64 c, .bool true]) := Lib.hid (hW0 ▸ (by have := Blk.new (w.alloc (.cells #[.int .i64 lo, .int .i64 hi, nm, .bool week] 66)) 120 #[.bool false, .int .i64 n, .int .i64 a, .bool true, .int .i64 m, .int .i64 b, .bool true, .int .i64 q, .int .i64 c, .bool true]; simpa using this))
  have Hbw0 : Hid (Below w.heap.size w W0) := Lib.hid (hW0 ▸ ((Below.refl _ _).alloc (Nat.le_refl _) _).alloc (by simp) _)
  have hsz0 : w.heap.size + 2 = W0.heap.size := by rw [← hW0]; simp
  have HW0 := Lib.hid hW0
  have Hsz := Lib.hid hsz0
  have hlt0 : w.heap.size + 1 < W0.heap.size := by omega
  clear hW0 hsz0
  have d0 : W0.cell? ⟨w.heap.size + 1, 1, none⟩ = some (.int .i64 ((n : Nat) : Int)) := HI0.out.cell 1
  have d1 : ∀ x, (W0.alloc x).cell? ⟨w.heap.size + 1, 1, none⟩ = some (.int .i64 ((n : Nat) : Int)) := fun x => (World.cell?_alloc_past _ _ _ hlt0).trans d0
  have d2 : ∀ x y, ((W0.alloc x).alloc y).cell? ⟨w.heap.size + 1, 1, none⟩ = some (.int .i64 ((n : Nat) : Int)) := fun x y => (World.cell?_alloc_past _ _ _ (by simp; omega)).trans (d1 x)
  have d3 : ∀ x y z, (((W0.alloc x).alloc y).alloc z).cell? ⟨w.heap.size + 1, 1, none⟩ = some (.int .i64 ((n : Nat) : Int)) := fun x y z => (World.cell?_alloc_past _ _ _ (by simp; omega)).trans (d2 x y)
  go_enter Tryz.func66, Tryz.ntmps66
  go_upto_region 1 with fail
  rw [HW0.out]
  go_cut [5, 6, 7] (fun s5 s6 s7 wx => Three W0 ((n : Nat) : Int) ((n : Nat) : Int) 1 s5 s6 s7 wx)
  case first =>
    go_region
    all_goals
      go_wp2_with fail
      go_meet
      refine ⟨_, _, _, rfl, rfl, rfl, ?_, ?_, ?_, by omega, by omega, by omega, by omega, by omega, by omega, ((((Kp.refl _ _).alloc _).alloc _).alloc _).drew⟩
    all_goals (first | exact three0 _ _ _ _ _ | exact three1 _ _ _ _ _ | exact three2 _ _ _ _ _)
  case rest =>
    obtain ⟨bl, bh, bs, rfl, rfl, rfl, hL, hH, hS, n1, n2, n3, l1, l2, l3, hk⟩ := hcut
    have HL := Lib.hid hL
    have HH := Lib.hid hH
    have HS := Lib.hid hS
    have HK := Lib.hid hk
    have HPc : Hid (Blk wc w.heap.size 66 #[.int .i64 lo, .int .i64 hi, nm, .bool week]) := Lib.hid (HP0.out.kp hk (fun h => h))
    have HIc : Hid (Blk wc (w.heap.size + 1) 120 #[.bool false, .int .i64 n, .int .i64 a, .bool true, .int .i64 m, .int .i64 b, .bool true, .int .i64 q, .int .i64 c, .bool true]) := Lib.hid (HI0.out.kp hk (fun h => h))
    have Hbw : Hid (Below w.heap.size w wc) := Lib.hid (Kp.below Hbw0.out hk (by omega) (fun i h => h.elim))
    obtain ⟨hcL, hfL⟩ := HL.out.facts
    obtain ⟨hcH, hfH⟩ := HH.out.facts
    obtain ⟨hcS, hfS⟩ := HS.out.facts
    obtain ⟨hcP, hfP⟩ := HPc.out.facts
    obtain ⟨hcI, hfI⟩ := HIc.out.facts
    clear hL hH hS hk d0 d1 d2 d3
    go_wp2
    go_ret
    exact ⟨bl, bh, bs, w.heap.size, rfl, (((HL.out).far (by show bl ≠ bh; omega) _)).far (by show bl ≠ bs; omega) _, ((HH.out.set_ 0 _)).far (by show bh ≠ bs; omega) _, ((HS.out).far (by show bs ≠ bh; omega) _).set_ 0 _, (((HPc.out).far (by show w.heap.size ≠ bh; omega) _)).far (by show w.heap.size ≠ bs; omega) _, (Hbw.out.setCell (by show _ ≤ bh; omega) _).setCell (by show _ ≤ bs; omega) _, by omega, by omega, by omega, Nat.le_refl _⟩

theorem field_numbers (lo hi : Nat) (nm : Value) (week : Bool) (l : List ByteArray) (x : Fs.Item) (w : World) (h1 : lo ≤ 62) (h2 : hi ≤ 62) (hx : Wf x) :
    Calls Tryz.prog 66 #[.agg #[.int .i64 lo, .int .i64 hi, nm, .bool week], .agg (cellsP x).toArray] w (NumsR w lo hi nm week (Fs.itemLo (kind lo hi l week) x) (Fs.itemHi (kind lo hi l week) x) (Fs.itemStep x)) := by
  obtain ⟨star, at_, xlo, xhi, xst⟩ := x
  obtain ⟨ha, s1, s2, s3, s4⟩ := hx
  simp only at ha s1 s2 s3 s4
  rcases s4 with ⟨rfl, rfl, rfl⟩ | ⟨rfl, n, rfl⟩
  · rcases xst with _ | ⟨q, c⟩
    · exact nums_star_none lo hi nm week w h1 h2
    · exact nums_star_step lo hi nm week q c w h1 h2
  · rcases xhi with _ | ⟨m, b⟩
    · rcases xst with _ | ⟨q, c⟩
      · exact nums_one_none lo hi nm week n at_ w h1 h2
      · exact nums_one_step lo hi nm week n at_ q c w h1 h2 s1.1
    · rcases xst with _ | ⟨q, c⟩
      · exact nums_two_none lo hi nm week n at_ m b w h1 h2
      · exact nums_two_step lo hi nm week n at_ m b q c w h1 h2

end Go.Proofs.YtjnlgaeedcklaaaGreatDoor
