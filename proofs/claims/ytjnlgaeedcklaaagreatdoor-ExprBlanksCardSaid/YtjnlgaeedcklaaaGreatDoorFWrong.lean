/-
  The program's text: where an item is wrong.
-/
import Derived.Test.YtjnlgaeedcklaaaGreatDoorFRd7
import Derived.Test.YtjnlgaeedcklaaaGreatDoorFRef8
set_option linter.unusedVariables false
set_option linter.unusedSimpArgs false
namespace Go.Proofs.YtjnlgaeedcklaaaGreatDoor
open Go.RowKit

theorem hnot_ (x : Bool) (w : World) : (Op.unary .not (.bool x)).run Tryz.prog w = .ok (.bool (!x)) w := rfl

/-- Whether a number that is there is not allowed. -/
def outB (k : Fs.Kind) : Fs.Part → Bool
  | some (n, _) => !Fs.inB k n
  | none => false

set_option maxHeartbeats 1000000 in
theorem field_out_none (g lo hi : Nat) (nm : Value) (week : Bool) (w : World) (hB : Blk w g 66 #[.int .i64 lo, .int .i64 hi, nm, .bool week]) :
    Calls Tryz.prog 104 #[.agg #[.int .i64 0, .int .i64 0, .bool false], .pointer (some ⟨g, 0, none⟩)] w fun e w' => e = .returned (.bool false) ∧ Below w.heap.size w w' := by
  have hgl := hB.lt
  obtain ⟨hc, hf⟩ := hB.facts
  clear hB
  go_enter Tryz.func104, Tryz.ntmps104
  go_wp2
  go_ret
  exact ⟨rfl, (Below.refl _ _).alloc (Nat.le_refl _) _⟩

set_option maxHeartbeats 1000000 in
theorem field_out_some (g lo hi n a : Nat) (l : List ByteArray) (nm : Value) (week : Bool) (w : World) (hB : Blk w g 66 #[.int .i64 lo, .int .i64 hi, nm, .bool week]) (h1 : lo ≤ 62) (h2 : hi ≤ 62) (h3 : n ≤ 1000) :
    Calls Tryz.prog 104 #[.agg #[.int .i64 n, .int .i64 a, .bool true], .pointer (some ⟨g, 0, none⟩)] w fun e w' => e = .returned (.bool (!Fs.inB (kind lo hi l week) n)) ∧ Below w.heap.size w w' := by
  have hgl := hB.lt
  obtain ⟨hc, hf⟩ := hB.facts
  clear hB
  generalize hr : (!Fs.inB (kind lo hi l week) n) = r
  simp only [Fs.inB, kind] at hr
  by_cases ha : n < lo
  · have ha' : (n : Int) < (lo : Int) := by omega
    have hna : ¬ (lo : Int) ≤ (n : Int) := by omega
    cases week with
    | false =>
      simp only [hna, decide_false, Bool.false_and, Bool.or_false, Bool.not_false] at hr
      subst hr
      go_enter Tryz.func104, Tryz.ntmps104
      go_wp2
      go_ret
      exact ⟨rfl, (Below.refl _ _).alloc (Nat.le_refl _) _⟩
    | true =>
      by_cases h7 : n = 7
      · simp only [hna, h7, decide_false, Bool.false_and, decide_true, Bool.and_true, Bool.or_true, Bool.not_true] at hr
        subst hr
        have h7' : ((n : Int) == 7) = true := by rw [beq_iff_eq]; omega
        clear h7
        go_enter Tryz.func104, Tryz.ntmps104
        go_wp2
        go_ret
        exact ⟨rfl, (Below.refl _ _).alloc (Nat.le_refl _) _⟩
      · simp only [hna, h7, decide_false, Bool.false_and, Bool.and_false, Bool.or_false, Bool.not_false] at hr
        subst hr
        have h7' : ((n : Int) == 7) = false := by rw [beq_eq_false_iff_ne]; omega
        clear h7
        go_enter Tryz.func104, Tryz.ntmps104
        go_wp2
        go_ret
        exact ⟨rfl, (Below.refl _ _).alloc (Nat.le_refl _) _⟩
  · have ha' : ¬ (n : Int) < (lo : Int) := by omega
    have hna : (lo : Int) ≤ (n : Int) := by omega
    by_cases hb : hi < n
    · have hb' : (hi : Int) < (n : Int) := by omega
      have hnb : ¬ (n : Int) ≤ (hi : Int) := by omega
      cases week with
      | false =>
        simp only [hnb, decide_false, Bool.and_false, Bool.false_and, Bool.or_false, Bool.not_false] at hr
        subst hr
        go_enter Tryz.func104, Tryz.ntmps104
        go_wp2
        go_ret
        exact ⟨rfl, (Below.refl _ _).alloc (Nat.le_refl _) _⟩
      | true =>
        by_cases h7 : n = 7
        · simp only [hnb, h7, decide_false, Bool.and_false, decide_true, Bool.and_true, Bool.or_true, Bool.not_true] at hr
          subst hr
          have h7' : ((n : Int) == 7) = true := by rw [beq_iff_eq]; omega
          clear h7
          go_enter Tryz.func104, Tryz.ntmps104
          go_wp2
          go_ret
          exact ⟨rfl, (Below.refl _ _).alloc (Nat.le_refl _) _⟩
        · simp only [hnb, h7, decide_false, Bool.and_false, Bool.or_false, Bool.not_false] at hr
          subst hr
          have h7' : ((n : Int) == 7) = false := by rw [beq_eq_false_iff_ne]; omega
          clear h7
          go_enter Tryz.func104, Tryz.ntmps104
          go_wp2
          go_ret
          exact ⟨rfl, (Below.refl _ _).alloc (Nat.le_refl _) _⟩
    · have hb' : ¬ (hi : Int) < (n : Int) := by omega
      have hnb : (n : Int) ≤ (hi : Int) := by omega
      simp only [hna, hnb, decide_true, Bool.and_true, Bool.true_or, Bool.not_true] at hr
      subst hr
      go_enter Tryz.func104, Tryz.ntmps104
      go_wp2
      go_ret
      exact ⟨rfl, (Below.refl _ _).alloc (Nat.le_refl _) _⟩

/-! ### wrong, shape by shape -/
set_option maxHeartbeats 1000000 in
theorem wrong_star_none (lo hi : Nat) (nm : Value) (week : Bool) (l : List ByteArray) (w : World) (h1 : lo ≤ 62) (h2 : hi ≤ 62) :
    Calls Tryz.prog 65 #[.agg #[.int .i64 lo, .int .i64 hi, nm, .bool week], .agg #[.bool true, .int .i64 0, .int .i64 0, .bool false, .int .i64 0, .int .i64 0, .bool false, .int .i64 0, .int .i64 0, .bool false]] w fun e w' => e = .returned (.tuple #[.int .i64 0, .bool false]) ∧ Below w.heap.size w w' := by
  have hmf : ∀ (fn : Fn) (first cap : Array Value) (w : World), (Instr.makeFunc fn first cap).run Tryz.prog w = .ok (.func fn first cap) w := fun _ _ _ _ => rfl
  go_enter Tryz.func65, Tryz.ntmps65
  go_wp2_with fail
  go_at_call 104
  ((with_reducible refine (field_out_none w.heap.size lo hi nm week _ ((Blk.new w _ _).alloc _)).mono ?_))
  rintro e w1 ⟨rfl, hb1⟩
  obtain ⟨hc1, hf1⟩ := bcell hb1
  have hz1 : w.heap.size + 1 < w1.heap.size := by have := hb1.size; (try simp at this); omega
  go_wp2_with fail
  go_at_call 104
  ((with_reducible refine (field_out_none w.heap.size lo hi nm week _ (((Blk.new w _ _).alloc _).below hb1 (by simp; omega))).mono ?_))
  rintro e w2 ⟨rfl, hb2⟩
  obtain ⟨hc2, hf2⟩ := bcell hb2
  have hz2 : w.heap.size + 1 < w2.heap.size := by have := hb2.size; (try simp at this); omega
  go_wp2
  go_ret2
  exact ⟨rfl, ((((Below.refl _ _).alloc (Nat.le_refl _) _).alloc (by simp) _).trans (hb1.mono (by simp; omega))).trans (hb2.mono (by omega))⟩

set_option maxHeartbeats 1000000 in
theorem wrong_one_none (lo hi : Nat) (nm : Value) (week : Bool) (l : List ByteArray) (n a : Nat) (w : World) (h1 : lo ≤ 62) (h2 : hi ≤ 62) (h3 : n ≤ 1000) (hA : (!Fs.inB (kind lo hi l week) n) = false) :
    Calls Tryz.prog 65 #[.agg #[.int .i64 lo, .int .i64 hi, nm, .bool week], .agg #[.bool false, .int .i64 n, .int .i64 a, .bool true, .int .i64 0, .int .i64 0, .bool false, .int .i64 0, .int .i64 0, .bool false]] w fun e w' => e = .returned (.tuple #[.int .i64 0, .bool false]) ∧ Below w.heap.size w w' := by
  have hmf : ∀ (fn : Fn) (first cap : Array Value) (w : World), (Instr.makeFunc fn first cap).run Tryz.prog w = .ok (.func fn first cap) w := fun _ _ _ _ => rfl
  have HA : Hid (∀ W, Blk W w.heap.size 66 #[.int .i64 lo, .int .i64 hi, nm, .bool week] → Calls Tryz.prog 104 #[.agg #[.int .i64 n, .int .i64 a, .bool true], .pointer (some ⟨w.heap.size, 0, none⟩)] W fun e w' => e = .returned (.bool false) ∧ Below W.heap.size W w') := Lib.hid (fun W hB => by have := field_out_some w.heap.size lo hi n a l nm week W hB h1 h2 h3; rw [hA] at this; exact this)
  clear hA
  go_enter Tryz.func65, Tryz.ntmps65
  go_wp2_with fail
  go_at_call 104
  ((with_reducible refine (HA.out _ ((Blk.new w _ _).alloc _)).mono ?_))
  rintro e w1 ⟨rfl, hb1⟩
  obtain ⟨hc1, hf1⟩ := bcell hb1
  have hz1 : w.heap.size + 1 < w1.heap.size := by have := hb1.size; (try simp at this); omega
  go_wp2_with fail
  go_at_call 104
  ((with_reducible refine (field_out_none w.heap.size lo hi nm week _ (((Blk.new w _ _).alloc _).below hb1 (by simp; omega))).mono ?_))
  rintro e w2 ⟨rfl, hb2⟩
  obtain ⟨hc2, hf2⟩ := bcell hb2
  have hz2 : w.heap.size + 1 < w2.heap.size := by have := hb2.size; (try simp at this); omega
  go_wp2
  go_ret2
  exact ⟨rfl, ((((Below.refl _ _).alloc (Nat.le_refl _) _).alloc (by simp) _).trans (hb1.mono (by simp; omega))).trans (hb2.mono (by omega))⟩

set_option maxHeartbeats 1000000 in
theorem wrong_two_none (lo hi : Nat) (nm : Value) (week : Bool) (l : List ByteArray) (n a m b : Nat) (w : World) (h1 : lo ≤ 62) (h2 : hi ≤ 62) (h3 : n ≤ 1000) (h4 : m ≤ 1000) (h7 : n ≤ m) (hA : (!Fs.inB (kind lo hi l week) n) = false) (hB' : (!Fs.inB (kind lo hi l week) m) = false) :
    Calls Tryz.prog 65 #[.agg #[.int .i64 lo, .int .i64 hi, nm, .bool week], .agg #[.bool false, .int .i64 n, .int .i64 a, .bool true, .int .i64 m, .int .i64 b, .bool true, .int .i64 0, .int .i64 0, .bool false]] w fun e w' => e = .returned (.tuple #[.int .i64 0, .bool false]) ∧ Below w.heap.size w w' := by
  have hmf : ∀ (fn : Fn) (first cap : Array Value) (w : World), (Instr.makeFunc fn first cap).run Tryz.prog w = .ok (.func fn first cap) w := fun _ _ _ _ => rfl
  have h7' : ¬ (m : Int) < (n : Int) := by omega
  have HA : Hid (∀ W, Blk W w.heap.size 66 #[.int .i64 lo, .int .i64 hi, nm, .bool week] → Calls Tryz.prog 104 #[.agg #[.int .i64 n, .int .i64 a, .bool true], .pointer (some ⟨w.heap.size, 0, none⟩)] W fun e w' => e = .returned (.bool false) ∧ Below W.heap.size W w') := Lib.hid (fun W hB => by have := field_out_some w.heap.size lo hi n a l nm week W hB h1 h2 h3; rw [hA] at this; exact this)
  clear hA
  have HB : Hid (∀ W, Blk W w.heap.size 66 #[.int .i64 lo, .int .i64 hi, nm, .bool week] → Calls Tryz.prog 104 #[.agg #[.int .i64 m, .int .i64 b, .bool true], .pointer (some ⟨w.heap.size, 0, none⟩)] W fun e w' => e = .returned (.bool false) ∧ Below W.heap.size W w') := Lib.hid (fun W hB => by have := field_out_some w.heap.size lo hi m b l nm week W hB h1 h2 h4; rw [hB'] at this; exact this)
  clear hB'
  go_enter Tryz.func65, Tryz.ntmps65
  go_wp2_with fail
  go_at_call 104
  ((with_reducible refine (HA.out _ ((Blk.new w _ _).alloc _)).mono ?_))
  rintro e w1 ⟨rfl, hb1⟩
  obtain ⟨hc1, hf1⟩ := bcell hb1
  have hz1 : w.heap.size + 1 < w1.heap.size := by have := hb1.size; (try simp at this); omega
  go_wp2_with fail
  go_at_call 104
  ((with_reducible refine (HB.out _ (((Blk.new w _ _).alloc _).below hb1 (by simp; omega))).mono ?_))
  rintro e w2 ⟨rfl, hb2⟩
  obtain ⟨hc2, hf2⟩ := bcell hb2
  have hz2 : w.heap.size + 1 < w2.heap.size := by have := hb2.size; (try simp at this); omega
  go_wp2
  go_ret2
  exact ⟨rfl, ((((Below.refl _ _).alloc (Nat.le_refl _) _).alloc (by simp) _).trans (hb1.mono (by simp; omega))).trans (hb2.mono (by omega))⟩

set_option maxHeartbeats 1000000 in
theorem wrong_star_zero (lo hi : Nat) (nm : Value) (week : Bool) (l : List ByteArray) (c : Nat) (w : World) (h1 : lo ≤ 62) (h2 : hi ≤ 62) :
    Calls Tryz.prog 65 #[.agg #[.int .i64 lo, .int .i64 hi, nm, .bool week], .agg #[.bool true, .int .i64 0, .int .i64 0, .bool false, .int .i64 0, .int .i64 0, .bool false, .int .i64 0, .int .i64 c, .bool true]] w fun e w' => e = .returned (.tuple #[.int .i64 c, .bool true]) ∧ Below w.heap.size w w' := by
  have hmf : ∀ (fn : Fn) (first cap : Array Value) (w : World), (Instr.makeFunc fn first cap).run Tryz.prog w = .ok (.func fn first cap) w := fun _ _ _ _ => rfl
  go_enter Tryz.func65, Tryz.ntmps65
  go_wp2_with fail
  go_at_call 104
  ((with_reducible refine (field_out_none w.heap.size lo hi nm week _ ((Blk.new w _ _).alloc _)).mono ?_))
  rintro e w1 ⟨rfl, hb1⟩
  obtain ⟨hc1, hf1⟩ := bcell hb1
  have hz1 : w.heap.size + 1 < w1.heap.size := by have := hb1.size; (try simp at this); omega
  go_wp2_with fail
  go_at_call 104
  ((with_reducible refine (field_out_none w.heap.size lo hi nm week _ (((Blk.new w _ _).alloc _).below hb1 (by simp; omega))).mono ?_))
  rintro e w2 ⟨rfl, hb2⟩
  obtain ⟨hc2, hf2⟩ := bcell hb2
  have hz2 : w.heap.size + 1 < w2.heap.size := by have := hb2.size; (try simp at this); omega
  go_wp2
  go_ret2
  exact ⟨rfl, ((((Below.refl _ _).alloc (Nat.le_refl _) _).alloc (by simp) _).trans (hb1.mono (by simp; omega))).trans (hb2.mono (by omega))⟩

set_option maxHeartbeats 1000000 in
theorem wrong_one_zero (lo hi : Nat) (nm : Value) (week : Bool) (l : List ByteArray) (n a : Nat) (c : Nat) (w : World) (h1 : lo ≤ 62) (h2 : hi ≤ 62) (h3 : n ≤ 1000) (hA : (!Fs.inB (kind lo hi l week) n) = false) :
    Calls Tryz.prog 65 #[.agg #[.int .i64 lo, .int .i64 hi, nm, .bool week], .agg #[.bool false, .int .i64 n, .int .i64 a, .bool true, .int .i64 0, .int .i64 0, .bool false, .int .i64 0, .int .i64 c, .bool true]] w fun e w' => e = .returned (.tuple #[.int .i64 c, .bool true]) ∧ Below w.heap.size w w' := by
  have hmf : ∀ (fn : Fn) (first cap : Array Value) (w : World), (Instr.makeFunc fn first cap).run Tryz.prog w = .ok (.func fn first cap) w := fun _ _ _ _ => rfl
  have HA : Hid (∀ W, Blk W w.heap.size 66 #[.int .i64 lo, .int .i64 hi, nm, .bool week] → Calls Tryz.prog 104 #[.agg #[.int .i64 n, .int .i64 a, .bool true], .pointer (some ⟨w.heap.size, 0, none⟩)] W fun e w' => e = .returned (.bool false) ∧ Below W.heap.size W w') := Lib.hid (fun W hB => by have := field_out_some w.heap.size lo hi n a l nm week W hB h1 h2 h3; rw [hA] at this; exact this)
  clear hA
  go_enter Tryz.func65, Tryz.ntmps65
  go_wp2_with fail
  go_at_call 104
  ((with_reducible refine (HA.out _ ((Blk.new w _ _).alloc _)).mono ?_))
  rintro e w1 ⟨rfl, hb1⟩
  obtain ⟨hc1, hf1⟩ := bcell hb1
  have hz1 : w.heap.size + 1 < w1.heap.size := by have := hb1.size; (try simp at this); omega
  go_wp2_with fail
  go_at_call 104
  ((with_reducible refine (field_out_none w.heap.size lo hi nm week _ (((Blk.new w _ _).alloc _).below hb1 (by simp; omega))).mono ?_))
  rintro e w2 ⟨rfl, hb2⟩
  obtain ⟨hc2, hf2⟩ := bcell hb2
  have hz2 : w.heap.size + 1 < w2.heap.size := by have := hb2.size; (try simp at this); omega
  go_wp2
  go_ret2
  exact ⟨rfl, ((((Below.refl _ _).alloc (Nat.le_refl _) _).alloc (by simp) _).trans (hb1.mono (by simp; omega))).trans (hb2.mono (by omega))⟩

set_option maxHeartbeats 1000000 in
theorem wrong_two_zero (lo hi : Nat) (nm : Value) (week : Bool) (l : List ByteArray) (n a m b : Nat) (c : Nat) (w : World) (h1 : lo ≤ 62) (h2 : hi ≤ 62) (h3 : n ≤ 1000) (h4 : m ≤ 1000) (h7 : n ≤ m) (hA : (!Fs.inB (kind lo hi l week) n) = false) (hB' : (!Fs.inB (kind lo hi l week) m) = false) :
    Calls Tryz.prog 65 #[.agg #[.int .i64 lo, .int .i64 hi, nm, .bool week], .agg #[.bool false, .int .i64 n, .int .i64 a, .bool true, .int .i64 m, .int .i64 b, .bool true, .int .i64 0, .int .i64 c, .bool true]] w fun e w' => e = .returned (.tuple #[.int .i64 c, .bool true]) ∧ Below w.heap.size w w' := by
  have hmf : ∀ (fn : Fn) (first cap : Array Value) (w : World), (Instr.makeFunc fn first cap).run Tryz.prog w = .ok (.func fn first cap) w := fun _ _ _ _ => rfl
  have h7' : ¬ (m : Int) < (n : Int) := by omega
  have HA : Hid (∀ W, Blk W w.heap.size 66 #[.int .i64 lo, .int .i64 hi, nm, .bool week] → Calls Tryz.prog 104 #[.agg #[.int .i64 n, .int .i64 a, .bool true], .pointer (some ⟨w.heap.size, 0, none⟩)] W fun e w' => e = .returned (.bool false) ∧ Below W.heap.size W w') := Lib.hid (fun W hB => by have := field_out_some w.heap.size lo hi n a l nm week W hB h1 h2 h3; rw [hA] at this; exact this)
  clear hA
  have HB : Hid (∀ W, Blk W w.heap.size 66 #[.int .i64 lo, .int .i64 hi, nm, .bool week] → Calls Tryz.prog 104 #[.agg #[.int .i64 m, .int .i64 b, .bool true], .pointer (some ⟨w.heap.size, 0, none⟩)] W fun e w' => e = .returned (.bool false) ∧ Below W.heap.size W w') := Lib.hid (fun W hB => by have := field_out_some w.heap.size lo hi m b l nm week W hB h1 h2 h4; rw [hB'] at this; exact this)
  clear hB'
  go_enter Tryz.func65, Tryz.ntmps65
  go_wp2_with fail
  go_at_call 104
  ((with_reducible refine (HA.out _ ((Blk.new w _ _).alloc _)).mono ?_))
  rintro e w1 ⟨rfl, hb1⟩
  obtain ⟨hc1, hf1⟩ := bcell hb1
  have hz1 : w.heap.size + 1 < w1.heap.size := by have := hb1.size; (try simp at this); omega
  go_wp2_with fail
  go_at_call 104
  ((with_reducible refine (HB.out _ (((Blk.new w _ _).alloc _).below hb1 (by simp; omega))).mono ?_))
  rintro e w2 ⟨rfl, hb2⟩
  obtain ⟨hc2, hf2⟩ := bcell hb2
  have hz2 : w.heap.size + 1 < w2.heap.size := by have := hb2.size; (try simp at this); omega
  go_wp2
  go_ret2
  exact ⟨rfl, ((((Below.refl _ _).alloc (Nat.le_refl _) _).alloc (by simp) _).trans (hb1.mono (by simp; omega))).trans (hb2.mono (by omega))⟩

set_option maxHeartbeats 1000000 in
theorem wrong_star_pos (lo hi : Nat) (nm : Value) (week : Bool) (l : List ByteArray) (q c : Nat) (w : World) (h1 : lo ≤ 62) (h2 : hi ≤ 62) (h5 : q ≠ 0) (h6 : q ≤ 1000) :
    Calls Tryz.prog 65 #[.agg #[.int .i64 lo, .int .i64 hi, nm, .bool week], .agg #[.bool true, .int .i64 0, .int .i64 0, .bool false, .int .i64 0, .int .i64 0, .bool false, .int .i64 q, .int .i64 c, .bool true]] w fun e w' => e = .returned (.tuple #[.int .i64 0, .bool false]) ∧ Below w.heap.size w w' := by
  have hmf : ∀ (fn : Fn) (first cap : Array Value) (w : World), (Instr.makeFunc fn first cap).run Tryz.prog w = .ok (.func fn first cap) w := fun _ _ _ _ => rfl
  have hq : ((q : Int) == 0) = false := by rw [beq_eq_false_iff_ne]; omega
  go_enter Tryz.func65, Tryz.ntmps65
  go_wp2_with fail
  go_at_call 104
  ((with_reducible refine (field_out_none w.heap.size lo hi nm week _ ((Blk.new w _ _).alloc _)).mono ?_))
  rintro e w1 ⟨rfl, hb1⟩
  obtain ⟨hc1, hf1⟩ := bcell hb1
  have hz1 : w.heap.size + 1 < w1.heap.size := by have := hb1.size; (try simp at this); omega
  go_wp2_with fail
  go_at_call 104
  ((with_reducible refine (field_out_none w.heap.size lo hi nm week _ (((Blk.new w _ _).alloc _).below hb1 (by simp; omega))).mono ?_))
  rintro e w2 ⟨rfl, hb2⟩
  obtain ⟨hc2, hf2⟩ := bcell hb2
  have hz2 : w.heap.size + 1 < w2.heap.size := by have := hb2.size; (try simp at this); omega
  go_wp2
  go_ret2
  exact ⟨rfl, ((((Below.refl _ _).alloc (Nat.le_refl _) _).alloc (by simp) _).trans (hb1.mono (by simp; omega))).trans (hb2.mono (by omega))⟩

set_option maxHeartbeats 1000000 in
theorem wrong_one_pos (lo hi : Nat) (nm : Value) (week : Bool) (l : List ByteArray) (n a : Nat) (q c : Nat) (w : World) (h1 : lo ≤ 62) (h2 : hi ≤ 62) (h5 : q ≠ 0) (h6 : q ≤ 1000) (h3 : n ≤ 1000) (hA : (!Fs.inB (kind lo hi l week) n) = false) :
    Calls Tryz.prog 65 #[.agg #[.int .i64 lo, .int .i64 hi, nm, .bool week], .agg #[.bool false, .int .i64 n, .int .i64 a, .bool true, .int .i64 0, .int .i64 0, .bool false, .int .i64 q, .int .i64 c, .bool true]] w fun e w' => e = .returned (.tuple #[.int .i64 0, .bool false]) ∧ Below w.heap.size w w' := by
  have hmf : ∀ (fn : Fn) (first cap : Array Value) (w : World), (Instr.makeFunc fn first cap).run Tryz.prog w = .ok (.func fn first cap) w := fun _ _ _ _ => rfl
  have hq : ((q : Int) == 0) = false := by rw [beq_eq_false_iff_ne]; omega
  have HA : Hid (∀ W, Blk W w.heap.size 66 #[.int .i64 lo, .int .i64 hi, nm, .bool week] → Calls Tryz.prog 104 #[.agg #[.int .i64 n, .int .i64 a, .bool true], .pointer (some ⟨w.heap.size, 0, none⟩)] W fun e w' => e = .returned (.bool false) ∧ Below W.heap.size W w') := Lib.hid (fun W hB => by have := field_out_some w.heap.size lo hi n a l nm week W hB h1 h2 h3; rw [hA] at this; exact this)
  clear hA
  go_enter Tryz.func65, Tryz.ntmps65
  go_wp2_with fail
  go_at_call 104
  ((with_reducible refine (HA.out _ ((Blk.new w _ _).alloc _)).mono ?_))
  rintro e w1 ⟨rfl, hb1⟩
  obtain ⟨hc1, hf1⟩ := bcell hb1
  have hz1 : w.heap.size + 1 < w1.heap.size := by have := hb1.size; (try simp at this); omega
  go_wp2_with fail
  go_at_call 104
  ((with_reducible refine (field_out_none w.heap.size lo hi nm week _ (((Blk.new w _ _).alloc _).below hb1 (by simp; omega))).mono ?_))
  rintro e w2 ⟨rfl, hb2⟩
  obtain ⟨hc2, hf2⟩ := bcell hb2
  have hz2 : w.heap.size + 1 < w2.heap.size := by have := hb2.size; (try simp at this); omega
  go_wp2
  go_ret2
  exact ⟨rfl, ((((Below.refl _ _).alloc (Nat.le_refl _) _).alloc (by simp) _).trans (hb1.mono (by simp; omega))).trans (hb2.mono (by omega))⟩

set_option maxHeartbeats 1000000 in
theorem wrong_two_pos (lo hi : Nat) (nm : Value) (week : Bool) (l : List ByteArray) (n a m b : Nat) (q c : Nat) (w : World) (h1 : lo ≤ 62) (h2 : hi ≤ 62) (h5 : q ≠ 0) (h6 : q ≤ 1000) (h3 : n ≤ 1000) (h4 : m ≤ 1000) (h7 : n ≤ m) (hA : (!Fs.inB (kind lo hi l week) n) = false) (hB' : (!Fs.inB (kind lo hi l week) m) = false) :
    Calls Tryz.prog 65 #[.agg #[.int .i64 lo, .int .i64 hi, nm, .bool week], .agg #[.bool false, .int .i64 n, .int .i64 a, .bool true, .int .i64 m, .int .i64 b, .bool true, .int .i64 q, .int .i64 c, .bool true]] w fun e w' => e = .returned (.tuple #[.int .i64 0, .bool false]) ∧ Below w.heap.size w w' := by
  have hmf : ∀ (fn : Fn) (first cap : Array Value) (w : World), (Instr.makeFunc fn first cap).run Tryz.prog w = .ok (.func fn first cap) w := fun _ _ _ _ => rfl
  have hq : ((q : Int) == 0) = false := by rw [beq_eq_false_iff_ne]; omega
  have h7' : ¬ (m : Int) < (n : Int) := by omega
  have HA : Hid (∀ W, Blk W w.heap.size 66 #[.int .i64 lo, .int .i64 hi, nm, .bool week] → Calls Tryz.prog 104 #[.agg #[.int .i64 n, .int .i64 a, .bool true], .pointer (some ⟨w.heap.size, 0, none⟩)] W fun e w' => e = .returned (.bool false) ∧ Below W.heap.size W w') := Lib.hid (fun W hB => by have := field_out_some w.heap.size lo hi n a l nm week W hB h1 h2 h3; rw [hA] at this; exact this)
  clear hA
  have HB : Hid (∀ W, Blk W w.heap.size 66 #[.int .i64 lo, .int .i64 hi, nm, .bool week] → Calls Tryz.prog 104 #[.agg #[.int .i64 m, .int .i64 b, .bool true], .pointer (some ⟨w.heap.size, 0, none⟩)] W fun e w' => e = .returned (.bool false) ∧ Below W.heap.size W w') := Lib.hid (fun W hB => by have := field_out_some w.heap.size lo hi m b l nm week W hB h1 h2 h4; rw [hB'] at this; exact this)
  clear hB'
  go_enter Tryz.func65, Tryz.ntmps65
  go_wp2_with fail
  go_at_call 104
  ((with_reducible refine (HA.out _ ((Blk.new w _ _).alloc _)).mono ?_))
  rintro e w1 ⟨rfl, hb1⟩
  obtain ⟨hc1, hf1⟩ := bcell hb1
  have hz1 : w.heap.size + 1 < w1.heap.size := by have := hb1.size; (try simp at this); omega
  go_wp2_with fail
  go_at_call 104
  ((with_reducible refine (HB.out _ (((Blk.new w _ _).alloc _).below hb1 (by simp; omega))).mono ?_))
  rintro e w2 ⟨rfl, hb2⟩
  obtain ⟨hc2, hf2⟩ := bcell hb2
  have hz2 : w.heap.size + 1 < w2.heap.size := by have := hb2.size; (try simp at this); omega
  go_wp2
  go_ret2
  exact ⟨rfl, ((((Below.refl _ _).alloc (Nat.le_refl _) _).alloc (by simp) _).trans (hb1.mono (by simp; omega))).trans (hb2.mono (by omega))⟩

set_option maxHeartbeats 1000000 in
theorem wrong_lo_h0_s0 (lo hi : Nat) (nm : Value) (week : Bool) (l : List ByteArray) (n a : Nat) (w : World) (h1 : lo ≤ 62) (h2 : hi ≤ 62) (h3 : n ≤ 1000) (hA : (!Fs.inB (kind lo hi l week) n) = true) :
    Calls Tryz.prog 65 #[.agg #[.int .i64 lo, .int .i64 hi, nm, .bool week], .agg #[.bool false, .int .i64 n, .int .i64 a, .bool true, .int .i64 0, .int .i64 0, .bool false, .int .i64 0, .int .i64 0, .bool false]] w fun e w' => e = .returned (.tuple #[.int .i64 a, .bool true]) ∧ Below w.heap.size w w' := by
  have hmf : ∀ (fn : Fn) (first cap : Array Value) (w : World), (Instr.makeFunc fn first cap).run Tryz.prog w = .ok (.func fn first cap) w := fun _ _ _ _ => rfl
  have HA : Hid (∀ W, Blk W w.heap.size 66 #[.int .i64 lo, .int .i64 hi, nm, .bool week] → Calls Tryz.prog 104 #[.agg #[.int .i64 n, .int .i64 a, .bool true], .pointer (some ⟨w.heap.size, 0, none⟩)] W fun e w' => e = .returned (.bool true) ∧ Below W.heap.size W w') := Lib.hid (fun W hB => by have := field_out_some w.heap.size lo hi n a l nm week W hB h1 h2 h3; rw [hA] at this; exact this)
  clear hA
  go_enter Tryz.func65, Tryz.ntmps65
  go_wp2_with fail
  go_at_call 104
  ((with_reducible refine (HA.out _ ((Blk.new w _ _).alloc _)).mono ?_))
  rintro e w1 ⟨rfl, hb1⟩
  obtain ⟨hc1, hf1⟩ := bcell hb1
  have hz1 : w.heap.size + 1 < w1.heap.size := by have := hb1.size; (try simp at this); omega
  go_wp2
  go_ret2
  exact ⟨rfl, (((Below.refl _ _).alloc (Nat.le_refl _) _).alloc (by simp) _).trans (hb1.mono (by simp; omega))⟩

set_option maxHeartbeats 1000000 in
theorem wrong_lo_h0_s1 (lo hi : Nat) (nm : Value) (week : Bool) (l : List ByteArray) (n a : Nat) (q c : Nat) (w : World) (h1 : lo ≤ 62) (h2 : hi ≤ 62) (h3 : n ≤ 1000) (hA : (!Fs.inB (kind lo hi l week) n) = true) :
    Calls Tryz.prog 65 #[.agg #[.int .i64 lo, .int .i64 hi, nm, .bool week], .agg #[.bool false, .int .i64 n, .int .i64 a, .bool true, .int .i64 0, .int .i64 0, .bool false, .int .i64 q, .int .i64 c, .bool true]] w fun e w' => e = .returned (.tuple #[.int .i64 a, .bool true]) ∧ Below w.heap.size w w' := by
  have hmf : ∀ (fn : Fn) (first cap : Array Value) (w : World), (Instr.makeFunc fn first cap).run Tryz.prog w = .ok (.func fn first cap) w := fun _ _ _ _ => rfl
  have HA : Hid (∀ W, Blk W w.heap.size 66 #[.int .i64 lo, .int .i64 hi, nm, .bool week] → Calls Tryz.prog 104 #[.agg #[.int .i64 n, .int .i64 a, .bool true], .pointer (some ⟨w.heap.size, 0, none⟩)] W fun e w' => e = .returned (.bool true) ∧ Below W.heap.size W w') := Lib.hid (fun W hB => by have := field_out_some w.heap.size lo hi n a l nm week W hB h1 h2 h3; rw [hA] at this; exact this)
  clear hA
  go_enter Tryz.func65, Tryz.ntmps65
  go_wp2_with fail
  go_at_call 104
  ((with_reducible refine (HA.out _ ((Blk.new w _ _).alloc _)).mono ?_))
  rintro e w1 ⟨rfl, hb1⟩
  obtain ⟨hc1, hf1⟩ := bcell hb1
  have hz1 : w.heap.size + 1 < w1.heap.size := by have := hb1.size; (try simp at this); omega
  go_wp2
  go_ret2
  exact ⟨rfl, (((Below.refl _ _).alloc (Nat.le_refl _) _).alloc (by simp) _).trans (hb1.mono (by simp; omega))⟩

set_option maxHeartbeats 1000000 in
theorem wrong_lo_h1_s0 (lo hi : Nat) (nm : Value) (week : Bool) (l : List ByteArray) (n a : Nat) (m b : Nat) (w : World) (h1 : lo ≤ 62) (h2 : hi ≤ 62) (h3 : n ≤ 1000) (hA : (!Fs.inB (kind lo hi l week) n) = true) :
    Calls Tryz.prog 65 #[.agg #[.int .i64 lo, .int .i64 hi, nm, .bool week], .agg #[.bool false, .int .i64 n, .int .i64 a, .bool true, .int .i64 m, .int .i64 b, .bool true, .int .i64 0, .int .i64 0, .bool false]] w fun e w' => e = .returned (.tuple #[.int .i64 a, .bool true]) ∧ Below w.heap.size w w' := by
  have hmf : ∀ (fn : Fn) (first cap : Array Value) (w : World), (Instr.makeFunc fn first cap).run Tryz.prog w = .ok (.func fn first cap) w := fun _ _ _ _ => rfl
  have HA : Hid (∀ W, Blk W w.heap.size 66 #[.int .i64 lo, .int .i64 hi, nm, .bool week] → Calls Tryz.prog 104 #[.agg #[.int .i64 n, .int .i64 a, .bool true], .pointer (some ⟨w.heap.size, 0, none⟩)] W fun e w' => e = .returned (.bool true) ∧ Below W.heap.size W w') := Lib.hid (fun W hB => by have := field_out_some w.heap.size lo hi n a l nm week W hB h1 h2 h3; rw [hA] at this; exact this)
  clear hA
  go_enter Tryz.func65, Tryz.ntmps65
  go_wp2_with fail
  go_at_call 104
  ((with_reducible refine (HA.out _ ((Blk.new w _ _).alloc _)).mono ?_))
  rintro e w1 ⟨rfl, hb1⟩
  obtain ⟨hc1, hf1⟩ := bcell hb1
  have hz1 : w.heap.size + 1 < w1.heap.size := by have := hb1.size; (try simp at this); omega
  go_wp2
  go_ret2
  exact ⟨rfl, (((Below.refl _ _).alloc (Nat.le_refl _) _).alloc (by simp) _).trans (hb1.mono (by simp; omega))⟩

set_option maxHeartbeats 1000000 in
theorem wrong_hi_s0 (lo hi : Nat) (nm : Value) (week : Bool) (l : List ByteArray) (n a m b : Nat) (w : World) (h1 : lo ≤ 62) (h2 : hi ≤ 62) (h3 : n ≤ 1000) (h4 : m ≤ 1000) (hA : (!Fs.inB (kind lo hi l week) n) = false) (hB' : (!Fs.inB (kind lo hi l week) m) = true) :
    Calls Tryz.prog 65 #[.agg #[.int .i64 lo, .int .i64 hi, nm, .bool week], .agg #[.bool false, .int .i64 n, .int .i64 a, .bool true, .int .i64 m, .int .i64 b, .bool true, .int .i64 0, .int .i64 0, .bool false]] w fun e w' => e = .returned (.tuple #[.int .i64 b, .bool true]) ∧ Below w.heap.size w w' := by
  have hmf : ∀ (fn : Fn) (first cap : Array Value) (w : World), (Instr.makeFunc fn first cap).run Tryz.prog w = .ok (.func fn first cap) w := fun _ _ _ _ => rfl
  have HA : Hid (∀ W, Blk W w.heap.size 66 #[.int .i64 lo, .int .i64 hi, nm, .bool week] → Calls Tryz.prog 104 #[.agg #[.int .i64 n, .int .i64 a, .bool true], .pointer (some ⟨w.heap.size, 0, none⟩)] W fun e w' => e = .returned (.bool false) ∧ Below W.heap.size W w') := Lib.hid (fun W hB => by have := field_out_some w.heap.size lo hi n a l nm week W hB h1 h2 h3; rw [hA] at this; exact this)
  clear hA
  have HB : Hid (∀ W, Blk W w.heap.size 66 #[.int .i64 lo, .int .i64 hi, nm, .bool week] → Calls Tryz.prog 104 #[.agg #[.int .i64 m, .int .i64 b, .bool true], .pointer (some ⟨w.heap.size, 0, none⟩)] W fun e w' => e = .returned (.bool true) ∧ Below W.heap.size W w') := Lib.hid (fun W hB => by have := field_out_some w.heap.size lo hi m b l nm week W hB h1 h2 h4; rw [hB'] at this; exact this)
  clear hB'
  go_enter Tryz.func65, Tryz.ntmps65
  go_wp2_with fail
  go_at_call 104
  ((with_reducible refine (HA.out _ ((Blk.new w _ _).alloc _)).mono ?_))
  rintro e w1 ⟨rfl, hb1⟩
  obtain ⟨hc1, hf1⟩ := bcell hb1
  have hz1 : w.heap.size + 1 < w1.heap.size := by have := hb1.size; (try simp at this); omega
  go_wp2_with fail
  go_at_call 104
  ((with_reducible refine (HB.out _ (((Blk.new w _ _).alloc _).below hb1 (by simp; omega))).mono ?_))
  rintro e w2 ⟨rfl, hb2⟩
  obtain ⟨hc2, hf2⟩ := bcell hb2
  have hz2 : w.heap.size + 1 < w2.heap.size := by have := hb2.size; (try simp at this); omega
  go_wp2
  go_ret2
  exact ⟨rfl, ((((Below.refl _ _).alloc (Nat.le_refl _) _).alloc (by simp) _).trans (hb1.mono (by simp; omega))).trans (hb2.mono (by omega))⟩

set_option maxHeartbeats 1000000 in
theorem wrong_gt_s0 (lo hi : Nat) (nm : Value) (week : Bool) (l : List ByteArray) (n a m b : Nat) (w : World) (h1 : lo ≤ 62) (h2 : hi ≤ 62) (h3 : n ≤ 1000) (h4 : m ≤ 1000) (h7 : m < n) (hA : (!Fs.inB (kind lo hi l week) n) = false) (hB' : (!Fs.inB (kind lo hi l week) m) = false) :
    Calls Tryz.prog 65 #[.agg #[.int .i64 lo, .int .i64 hi, nm, .bool week], .agg #[.bool false, .int .i64 n, .int .i64 a, .bool true, .int .i64 m, .int .i64 b, .bool true, .int .i64 0, .int .i64 0, .bool false]] w fun e w' => e = .returned (.tuple #[.int .i64 a, .bool true]) ∧ Below w.heap.size w w' := by
  have hmf : ∀ (fn : Fn) (first cap : Array Value) (w : World), (Instr.makeFunc fn first cap).run Tryz.prog w = .ok (.func fn first cap) w := fun _ _ _ _ => rfl
  have h7' : (m : Int) < (n : Int) := by omega
  have HA : Hid (∀ W, Blk W w.heap.size 66 #[.int .i64 lo, .int .i64 hi, nm, .bool week] → Calls Tryz.prog 104 #[.agg #[.int .i64 n, .int .i64 a, .bool true], .pointer (some ⟨w.heap.size, 0, none⟩)] W fun e w' => e = .returned (.bool false) ∧ Below W.heap.size W w') := Lib.hid (fun W hB => by have := field_out_some w.heap.size lo hi n a l nm week W hB h1 h2 h3; rw [hA] at this; exact this)
  clear hA
  have HB : Hid (∀ W, Blk W w.heap.size 66 #[.int .i64 lo, .int .i64 hi, nm, .bool week] → Calls Tryz.prog 104 #[.agg #[.int .i64 m, .int .i64 b, .bool true], .pointer (some ⟨w.heap.size, 0, none⟩)] W fun e w' => e = .returned (.bool false) ∧ Below W.heap.size W w') := Lib.hid (fun W hB => by have := field_out_some w.heap.size lo hi m b l nm week W hB h1 h2 h4; rw [hB'] at this; exact this)
  clear hB'
  go_enter Tryz.func65, Tryz.ntmps65
  go_wp2_with fail
  go_at_call 104
  ((with_reducible refine (HA.out _ ((Blk.new w _ _).alloc _)).mono ?_))
  rintro e w1 ⟨rfl, hb1⟩
  obtain ⟨hc1, hf1⟩ := bcell hb1
  have hz1 : w.heap.size + 1 < w1.heap.size := by have := hb1.size; (try simp at this); omega
  go_wp2_with fail
  go_at_call 104
  ((with_reducible refine (HB.out _ (((Blk.new w _ _).alloc _).below hb1 (by simp; omega))).mono ?_))
  rintro e w2 ⟨rfl, hb2⟩
  obtain ⟨hc2, hf2⟩ := bcell hb2
  have hz2 : w.heap.size + 1 < w2.heap.size := by have := hb2.size; (try simp at this); omega
  go_wp2
  go_ret2
  exact ⟨rfl, ((((Below.refl _ _).alloc (Nat.le_refl _) _).alloc (by simp) _).trans (hb1.mono (by simp; omega))).trans (hb2.mono (by omega))⟩

set_option maxHeartbeats 1000000 in
theorem wrong_lo_h1_s1 (lo hi : Nat) (nm : Value) (week : Bool) (l : List ByteArray) (n a : Nat) (m b : Nat) (q c : Nat) (w : World) (h1 : lo ≤ 62) (h2 : hi ≤ 62) (h3 : n ≤ 1000) (hA : (!Fs.inB (kind lo hi l week) n) = true) :
    Calls Tryz.prog 65 #[.agg #[.int .i64 lo, .int .i64 hi, nm, .bool week], .agg #[.bool false, .int .i64 n, .int .i64 a, .bool true, .int .i64 m, .int .i64 b, .bool true, .int .i64 q, .int .i64 c, .bool true]] w fun e w' => e = .returned (.tuple #[.int .i64 a, .bool true]) ∧ Below w.heap.size w w' := by
  have hmf : ∀ (fn : Fn) (first cap : Array Value) (w : World), (Instr.makeFunc fn first cap).run Tryz.prog w = .ok (.func fn first cap) w := fun _ _ _ _ => rfl
  have HA : Hid (∀ W, Blk W w.heap.size 66 #[.int .i64 lo, .int .i64 hi, nm, .bool week] → Calls Tryz.prog 104 #[.agg #[.int .i64 n, .int .i64 a, .bool true], .pointer (some ⟨w.heap.size, 0, none⟩)] W fun e w' => e = .returned (.bool true) ∧ Below W.heap.size W w') := Lib.hid (fun W hB => by have := field_out_some w.heap.size lo hi n a l nm week W hB h1 h2 h3; rw [hA] at this; exact this)
  clear hA
  go_enter Tryz.func65, Tryz.ntmps65
  go_wp2_with fail
  go_at_call 104
  ((with_reducible refine (HA.out _ ((Blk.new w _ _).alloc _)).mono ?_))
  rintro e w1 ⟨rfl, hb1⟩
  obtain ⟨hc1, hf1⟩ := bcell hb1
  have hz1 : w.heap.size + 1 < w1.heap.size := by have := hb1.size; (try simp at this); omega
  go_wp2
  go_ret2
  exact ⟨rfl, (((Below.refl _ _).alloc (Nat.le_refl _) _).alloc (by simp) _).trans (hb1.mono (by simp; omega))⟩

set_option maxHeartbeats 1000000 in
theorem wrong_hi_s1 (lo hi : Nat) (nm : Value) (week : Bool) (l : List ByteArray) (n a m b : Nat) (q c : Nat) (w : World) (h1 : lo ≤ 62) (h2 : hi ≤ 62) (h3 : n ≤ 1000) (h4 : m ≤ 1000) (hA : (!Fs.inB (kind lo hi l week) n) = false) (hB' : (!Fs.inB (kind lo hi l week) m) = true) :
    Calls Tryz.prog 65 #[.agg #[.int .i64 lo, .int .i64 hi, nm, .bool week], .agg #[.bool false, .int .i64 n, .int .i64 a, .bool true, .int .i64 m, .int .i64 b, .bool true, .int .i64 q, .int .i64 c, .bool true]] w fun e w' => e = .returned (.tuple #[.int .i64 b, .bool true]) ∧ Below w.heap.size w w' := by
  have hmf : ∀ (fn : Fn) (first cap : Array Value) (w : World), (Instr.makeFunc fn first cap).run Tryz.prog w = .ok (.func fn first cap) w := fun _ _ _ _ => rfl
  have HA : Hid (∀ W, Blk W w.heap.size 66 #[.int .i64 lo, .int .i64 hi, nm, .bool week] → Calls Tryz.prog 104 #[.agg #[.int .i64 n, .int .i64 a, .bool true], .pointer (some ⟨w.heap.size, 0, none⟩)] W fun e w' => e = .returned (.bool false) ∧ Below W.heap.size W w') := Lib.hid (fun W hB => by have := field_out_some w.heap.size lo hi n a l nm week W hB h1 h2 h3; rw [hA] at this; exact this)
  clear hA
  have HB : Hid (∀ W, Blk W w.heap.size 66 #[.int .i64 lo, .int .i64 hi, nm, .bool week] → Calls Tryz.prog 104 #[.agg #[.int .i64 m, .int .i64 b, .bool true], .pointer (some ⟨w.heap.size, 0, none⟩)] W fun e w' => e = .returned (.bool true) ∧ Below W.heap.size W w') := Lib.hid (fun W hB => by have := field_out_some w.heap.size lo hi m b l nm week W hB h1 h2 h4; rw [hB'] at this; exact this)
  clear hB'
  go_enter Tryz.func65, Tryz.ntmps65
  go_wp2_with fail
  go_at_call 104
  ((with_reducible refine (HA.out _ ((Blk.new w _ _).alloc _)).mono ?_))
  rintro e w1 ⟨rfl, hb1⟩
  obtain ⟨hc1, hf1⟩ := bcell hb1
  have hz1 : w.heap.size + 1 < w1.heap.size := by have := hb1.size; (try simp at this); omega
  go_wp2_with fail
  go_at_call 104
  ((with_reducible refine (HB.out _ (((Blk.new w _ _).alloc _).below hb1 (by simp; omega))).mono ?_))
  rintro e w2 ⟨rfl, hb2⟩
  obtain ⟨hc2, hf2⟩ := bcell hb2
  have hz2 : w.heap.size + 1 < w2.heap.size := by have := hb2.size; (try simp at this); omega
  go_wp2
  go_ret2
  exact ⟨rfl, ((((Below.refl _ _).alloc (Nat.le_refl _) _).alloc (by simp) _).trans (hb1.mono (by simp; omega))).trans (hb2.mono (by omega))⟩

set_option maxHeartbeats 1000000 in
theorem wrong_gt_s1 (lo hi : Nat) (nm : Value) (week : Bool) (l : List ByteArray) (n a m b : Nat) (q c : Nat) (w : World) (h1 : lo ≤ 62) (h2 : hi ≤ 62) (h3 : n ≤ 1000) (h4 : m ≤ 1000) (h7 : m < n) (hA : (!Fs.inB (kind lo hi l week) n) = false) (hB' : (!Fs.inB (kind lo hi l week) m) = false) :
    Calls Tryz.prog 65 #[.agg #[.int .i64 lo, .int .i64 hi, nm, .bool week], .agg #[.bool false, .int .i64 n, .int .i64 a, .bool true, .int .i64 m, .int .i64 b, .bool true, .int .i64 q, .int .i64 c, .bool true]] w fun e w' => e = .returned (.tuple #[.int .i64 a, .bool true]) ∧ Below w.heap.size w w' := by
  have hmf : ∀ (fn : Fn) (first cap : Array Value) (w : World), (Instr.makeFunc fn first cap).run Tryz.prog w = .ok (.func fn first cap) w := fun _ _ _ _ => rfl
  have h7' : (m : Int) < (n : Int) := by omega
  have HA : Hid (∀ W, Blk W w.heap.size 66 #[.int .i64 lo, .int .i64 hi, nm, .bool week] → Calls Tryz.prog 104 #[.agg #[.int .i64 n, .int .i64 a, .bool true], .pointer (some ⟨w.heap.size, 0, none⟩)] W fun e w' => e = .returned (.bool false) ∧ Below W.heap.size W w') := Lib.hid (fun W hB => by have := field_out_some w.heap.size lo hi n a l nm week W hB h1 h2 h3; rw [hA] at this; exact this)
  clear hA
  have HB : Hid (∀ W, Blk W w.heap.size 66 #[.int .i64 lo, .int .i64 hi, nm, .bool week] → Calls Tryz.prog 104 #[.agg #[.int .i64 m, .int .i64 b, .bool true], .pointer (some ⟨w.heap.size, 0, none⟩)] W fun e w' => e = .returned (.bool false) ∧ Below W.heap.size W w') := Lib.hid (fun W hB => by have := field_out_some w.heap.size lo hi m b l nm week W hB h1 h2 h4; rw [hB'] at this; exact this)
  clear hB'
  go_enter Tryz.func65, Tryz.ntmps65
  go_wp2_with fail
  go_at_call 104
  ((with_reducible refine (HA.out _ ((Blk.new w _ _).alloc _)).mono ?_))
  rintro e w1 ⟨rfl, hb1⟩
  obtain ⟨hc1, hf1⟩ := bcell hb1
  have hz1 : w.heap.size + 1 < w1.heap.size := by have := hb1.size; (try simp at this); omega
  go_wp2_with fail
  go_at_call 104
  ((with_reducible refine (HB.out _ (((Blk.new w _ _).alloc _).below hb1 (by simp; omega))).mono ?_))
  rintro e w2 ⟨rfl, hb2⟩
  obtain ⟨hc2, hf2⟩ := bcell hb2
  have hz2 : w.heap.size + 1 < w2.heap.size := by have := hb2.size; (try simp at this); omega
  go_wp2
  go_ret2
  exact ⟨rfl, ((((Below.refl _ _).alloc (Nat.le_refl _) _).alloc (by simp) _).trans (hb1.mono (by simp; omega))).trans (hb2.mono (by omega))⟩

/-- What wrong returns. -/
def retW : Option Nat → Value
  | some a => .tuple #[.int .i64 a, .bool true]
  | none => .tuple #[.int .i64 0, .bool false]

theorem field_wrong (lo hi : Nat) (nm : Value) (week : Bool) (l : List ByteArray) (x : Fs.Item) (w : World) (h1 : lo ≤ 62) (h2 : hi ≤ 62) (hx : Wf x) :
    Calls Tryz.prog 65 #[.agg #[.int .i64 lo, .int .i64 hi, nm, .bool week], .agg (cellsP x).toArray] w fun e w' => e = .returned (retW (Fs.wrongAt (kind lo hi l week) x)) ∧ Below w.heap.size w w' := by
  obtain ⟨star, at_, xlo, xhi, xst⟩ := x
  obtain ⟨ha, s1, s2, s3, s4⟩ := hx
  simp only at ha s1 s2 s3 s4
  rcases s4 with ⟨rfl, rfl, rfl⟩ | ⟨rfl, n, rfl⟩
  · rcases xst with _ | ⟨q, c⟩
    · exact wrong_star_none lo hi nm week l w h1 h2
    · by_cases hq : q = 0
      · subst hq; exact wrong_star_zero lo hi nm week l c w h1 h2
      · have e : Fs.wrongAt (kind lo hi l week) ⟨true, at_, none, none, some (q, c)⟩ = none := by simp [Fs.wrongAt, hq]
        rw [e]; exact wrong_star_pos lo hi nm week l q c w h1 h2 hq s3.1
  · cases hA : (!Fs.inB (kind lo hi l week) n) with
    | true =>
      have e : Fs.wrongAt (kind lo hi l week) ⟨false, at_, some (n, at_), xhi, xst⟩ = some at_ := by simp [Fs.wrongAt, hA]
      rw [e]
      rcases xhi with _ | ⟨m, b⟩ <;> rcases xst with _ | ⟨q, c⟩
      · exact wrong_lo_h0_s0 lo hi nm week l n at_ w h1 h2 s1.1 hA
      · exact wrong_lo_h0_s1 lo hi nm week l n at_ q c w h1 h2 s1.1 hA
      · exact wrong_lo_h1_s0 lo hi nm week l n at_ m b w h1 h2 s1.1 hA
      · exact wrong_lo_h1_s1 lo hi nm week l n at_ m b q c w h1 h2 s1.1 hA
    | false =>
      have hA2 : Fs.inB (kind lo hi l week) n = true := by simpa using hA
      rcases xhi with _ | ⟨m, b⟩
      · rcases xst with _ | ⟨q, c⟩
        · have e : Fs.wrongAt (kind lo hi l week) ⟨false, at_, some (n, at_), none, none⟩ = none := by simp [Fs.wrongAt, hA2]
          rw [e]; exact wrong_one_none lo hi nm week l n at_ w h1 h2 s1.1 hA
        · by_cases hq : q = 0
          · subst hq
            have e : Fs.wrongAt (kind lo hi l week) ⟨false, at_, some (n, at_), none, some (0, c)⟩ = some c := by simp [Fs.wrongAt, hA2]
            rw [e]; exact wrong_one_zero lo hi nm week l n at_ c w h1 h2 s1.1 hA
          · have e : Fs.wrongAt (kind lo hi l week) ⟨false, at_, some (n, at_), none, some (q, c)⟩ = none := by simp [Fs.wrongAt, hA2, hq]
            rw [e]; exact wrong_one_pos lo hi nm week l n at_ q c w h1 h2 hq s3.1 s1.1 hA
      · cases hB : (!Fs.inB (kind lo hi l week) m) with
        | true =>
          have e : Fs.wrongAt (kind lo hi l week) ⟨false, at_, some (n, at_), some (m, b), xst⟩ = some b := by simp [Fs.wrongAt, hA2, hB]
          rw [e]
          rcases xst with _ | ⟨q, c⟩
          · exact wrong_hi_s0 lo hi nm week l n at_ m b w h1 h2 s1.1 s2.1 hA hB
          · exact wrong_hi_s1 lo hi nm week l n at_ m b q c w h1 h2 s1.1 s2.1 hA hB
        | false =>
          have hB2 : Fs.inB (kind lo hi l week) m = true := by simpa using hB
          by_cases h7 : m < n
          · have e : Fs.wrongAt (kind lo hi l week) ⟨false, at_, some (n, at_), some (m, b), xst⟩ = some at_ := by simp [Fs.wrongAt, hA2, hB2, h7]
            rw [e]
            rcases xst with _ | ⟨q, c⟩
            · exact wrong_gt_s0 lo hi nm week l n at_ m b w h1 h2 s1.1 s2.1 h7 hA hB
            · exact wrong_gt_s1 lo hi nm week l n at_ m b q c w h1 h2 s1.1 s2.1 h7 hA hB
          · rcases xst with _ | ⟨q, c⟩
            · have e : Fs.wrongAt (kind lo hi l week) ⟨false, at_, some (n, at_), some (m, b), none⟩ = none := by simp [Fs.wrongAt, hA2, hB2, h7]
              rw [e]; exact wrong_two_none lo hi nm week l n at_ m b w h1 h2 s1.1 s2.1 (by omega) hA hB
            · by_cases hq : q = 0
              · subst hq
                have e : Fs.wrongAt (kind lo hi l week) ⟨false, at_, some (n, at_), some (m, b), some (0, c)⟩ = some c := by simp [Fs.wrongAt, hA2, hB2, h7]
                rw [e]; exact wrong_two_zero lo hi nm week l n at_ m b c w h1 h2 s1.1 s2.1 (by omega) hA hB
              · have e : Fs.wrongAt (kind lo hi l week) ⟨false, at_, some (n, at_), some (m, b), some (q, c)⟩ = none := by simp [Fs.wrongAt, hA2, hB2, h7, hq]
                rw [e]; exact wrong_two_pos lo hi nm week l n at_ m b q c w h1 h2 hq s3.1 s1.1 s2.1 (by omega) hA hB

end Go.Proofs.YtjnlgaeedcklaaaGreatDoor
