/-
  The document's text: whether a number is allowed, and where an item is wrong.
-/
import Derived.Test.YtjnlgaeedcklaaaGreatDoorFRef3
set_option linter.unusedVariables false
set_option linter.unusedSimpArgs false
namespace Go.Proofs.YtjnlgaeedcklaaaGreatDoor
open Go.RowKit

set_option maxHeartbeats 1000000 in
theorem ref_in (lo hi : Int) (A : Option Addr) (c : Nat) (l : List ByteArray) (week : Bool) (n : Nat) (w : World) (hn : n ≤ 1000) :
    Calls Tryz.prog 118 #[.agg #[.int .i64 lo, .int .i64 hi, .slice A l.length c, .bool week], .int .i64 n] w fun e w' =>
      e = .returned (.bool (Fs.inB (kind lo hi l week) n)) ∧ w' = w.alloc (.cells #[.int .i64 lo, .int .i64 hi, .slice A l.length c, .bool week] 93) := by
  have hv : Fs.inB (kind lo hi l week) n = ((decide (lo ≤ n) && decide ((n : Int) ≤ hi)) || (week && decide (n = 7))) := rfl
  have Hv := Lib.hid hv; clear hv
  by_cases h1 : lo ≤ n
  · by_cases h2 : (n : Int) ≤ hi
    · go_enter Tryz.func118, Tryz.ntmps118
      go_wp2
      go_ret
      exact ⟨ret_bool (by rw [Hv.out]; simp [h1, h2]), rfl⟩
    · cases week
      · go_enter Tryz.func118, Tryz.ntmps118
        go_wp2
        go_ret
        exact ⟨ret_bool (by rw [Hv.out]; simp; intro _; omega), rfl⟩
      · go_enter Tryz.func118, Tryz.ntmps118
        go_wp2
        go_ret
        refine ⟨ret_bool (by rw [Hv.out, Bool.eq_iff_iff]; simp; omega), rfl⟩
  · cases week
    · go_enter Tryz.func118, Tryz.ntmps118
      go_wp2
      go_ret
      exact ⟨ret_bool (by rw [Hv.out]; simp; intro _; omega), rfl⟩
    · go_enter Tryz.func118, Tryz.ntmps118
      go_wp2
      go_ret
      refine ⟨ret_bool (by rw [Hv.out, Bool.eq_iff_iff]; simp; omega), rfl⟩

/-- What parsing makes: a star, or a value; small numbers. -/
def Small : Fs.Part → Prop
  | some (n, a) => n ≤ 1000 ∧ a ≤ 100001
  | none => True
def Wf (x : Fs.Item) : Prop := x.at_ ≤ 100001 ∧ Small x.lo ∧ Small x.hi ∧ Small x.step ∧ ((x.star = true ∧ x.lo = none ∧ x.hi = none) ∨ (x.star = false ∧ ∃ n, x.lo = some (n, x.at_)))

def wrongI : Option Nat → Int
  | some a => a
  | none => -1

set_option maxHeartbeats 4000000 in
theorem ref_wrong (lo hi : Int) (A : Option Addr) (c : Nat) (l : List ByteArray) (week : Bool) (x : Fs.Item) (w : World) (hx : Wf x) :
    Calls Tryz.prog 79 #[.agg #[.int .i64 lo, .int .i64 hi, .slice A l.length c, .bool week], encR x] w fun e w' =>
      e = .returned (.int .i64 (wrongI (Fs.wrongAt (kind lo hi l week) x))) ∧ Below w.heap.size w w' := by
  obtain ⟨star, at_, xlo, xhi, xst⟩ := x
  obtain ⟨ha, h1, h2, h3, h4⟩ := hx
  simp only at ha h1 h2 h3 h4
  have hin : ∀ (n : Nat) (W : World) (b : Bool), n ≤ 1000 → Fs.inB (kind lo hi l week) n = b → Calls Tryz.prog 118 #[.agg #[.int .i64 lo, .int .i64 hi, .slice A l.length c, .bool week], .int .i64 n] W fun e w' => e = .returned (.bool b) ∧ w' = W.alloc (.cells #[.int .i64 lo, .int .i64 hi, .slice A l.length c, .bool week] 93) :=
    fun n W b hn hb => by rw [← hb]; exact ref_in lo hi A c l week n W hn
  have Hin := Lib.hid hin; clear hin
  generalize hr : wrongI (Fs.wrongAt (kind lo hi l week) ⟨star, at_, xlo, xhi, xst⟩) = r
  rcases h4 with ⟨rfl, rfl, rfl⟩ | ⟨rfl, n, rfl⟩
  · -- a star
    rcases xst with _ | ⟨m, a⟩
    · obtain rfl : (-1 : Int) = r := by rw [← hr]; simp [Fs.wrongAt, wrongI]
      clear hr
      show Calls Tryz.prog 79 #[.agg #[.int .i64 lo, .int .i64 hi, .slice A l.length c, .bool week], .agg #[.bool true, .int .i64 (-1), .int .i64 (-1), .int .i64 (-1), .int .i64 at_, .int .i64 0, .int .i64 0]] w _
      go_enter Tryz.func79, Tryz.ntmps79
      go_wp2_with fail
      go_ret
      exact ⟨rfl, ((Below.refl _ _).alloc (Nat.le_refl _) _).alloc (by simp) _⟩
    · by_cases hm : m = 0
      · subst hm
        obtain rfl : (a : Int) = r := by rw [← hr]; simp [Fs.wrongAt, wrongI]
        clear hr
        show Calls Tryz.prog 79 #[.agg #[.int .i64 lo, .int .i64 hi, .slice A l.length c, .bool week], .agg #[.bool true, .int .i64 (-1), .int .i64 (-1), .int .i64 0, .int .i64 at_, .int .i64 0, .int .i64 a]] w _
        go_enter Tryz.func79, Tryz.ntmps79
        go_wp2_with fail
        go_ret
        exact ⟨rfl, ((Below.refl _ _).alloc (Nat.le_refl _) _).alloc (by simp) _⟩
      · obtain rfl : (-1 : Int) = r := by rw [← hr]; simp [Fs.wrongAt, wrongI, hm]
        have hm' : ((m : Int) == 0) = false := by rw [beq_eq_false_iff_ne]; omega
        clear hr hm
        show Calls Tryz.prog 79 #[.agg #[.int .i64 lo, .int .i64 hi, .slice A l.length c, .bool week], .agg #[.bool true, .int .i64 (-1), .int .i64 (-1), .int .i64 m, .int .i64 at_, .int .i64 0, .int .i64 a]] w _
        go_enter Tryz.func79, Tryz.ntmps79
        go_wp2_with fail
        go_ret
        exact ⟨rfl, ((Below.refl _ _).alloc (Nat.le_refl _) _).alloc (by simp) _⟩
  · have hn : n ≤ 1000 := h1.1
    cases hb : Fs.inB (kind lo hi l week) n with
    | false =>
      obtain rfl : (at_ : Int) = r := by rw [← hr]; simp [Fs.wrongAt, wrongI, hb]
      have H1 := Lib.hid (fun W => Hin.out n W false hn hb)
      clear hr
      show Calls Tryz.prog 79 #[.agg #[.int .i64 lo, .int .i64 hi, .slice A l.length c, .bool week], .agg #[.bool false, .int .i64 n, .int .i64 (pn xhi), .int .i64 (pn xst), .int .i64 at_, .int .i64 (pa xhi), .int .i64 (pa xst)]] w _
      go_enter Tryz.func79, Tryz.ntmps79
      go_wp2_with (go_at_call 118; refine (H1.out _).mono ?_; rintro e w1 ⟨rfl, rfl⟩)
      go_ret
      exact ⟨rfl, (((Below.refl _ _).alloc (Nat.le_refl _) _).alloc (by simp) _).alloc (by simp; omega) _⟩
    | true =>
      have H1 := Lib.hid (fun W => Hin.out n W true hn hb)
      rcases xhi with _ | ⟨m, b⟩
      ·
        rcases xst with _ | ⟨st, a⟩
        ·
          obtain rfl : (-1 : Int) = r := by rw [← hr]; simp [Fs.wrongAt, wrongI, hb]
          clear hr
          show Calls Tryz.prog 79 #[.agg #[.int .i64 lo, .int .i64 hi, .slice A l.length c, .bool week], .agg #[.bool false, .int .i64 n, .int .i64 (-1), .int .i64 (-1), .int .i64 at_, .int .i64 0, .int .i64 0]] w _
          go_enter Tryz.func79, Tryz.ntmps79
          go_wp2_with (first | (go_at_call 118; ((with_reducible refine (H1.out _).mono ?_)); rintro e w1 ⟨rfl, rfl⟩))
          go_ret
          exact ⟨rfl, (((Below.refl _ _).alloc (Nat.le_refl _) _).alloc (by simp) _).alloc (by simp; omega) _⟩
        · by_cases hm : st = 0
          · subst hm
            obtain rfl : (a : Int) = r := by rw [← hr]; simp [Fs.wrongAt, wrongI, hb]
            clear hr
            show Calls Tryz.prog 79 #[.agg #[.int .i64 lo, .int .i64 hi, .slice A l.length c, .bool week], .agg #[.bool false, .int .i64 n, .int .i64 (-1), .int .i64 0, .int .i64 at_, .int .i64 0, .int .i64 a]] w _
            go_enter Tryz.func79, Tryz.ntmps79
            go_wp2_with (first | (go_at_call 118; ((with_reducible refine (H1.out _).mono ?_)); rintro e w1 ⟨rfl, rfl⟩))
            go_ret
            exact ⟨rfl, (((Below.refl _ _).alloc (Nat.le_refl _) _).alloc (by simp) _).alloc (by simp; omega) _⟩
          ·
            obtain rfl : (-1 : Int) = r := by rw [← hr]; simp [Fs.wrongAt, wrongI, hb, hm]
            have hm' : ((st : Int) == 0) = false := by rw [beq_eq_false_iff_ne]; omega
            clear hm
            clear hr
            show Calls Tryz.prog 79 #[.agg #[.int .i64 lo, .int .i64 hi, .slice A l.length c, .bool week], .agg #[.bool false, .int .i64 n, .int .i64 (-1), .int .i64 st, .int .i64 at_, .int .i64 0, .int .i64 a]] w _
            go_enter Tryz.func79, Tryz.ntmps79
            go_wp2_with (first | (go_at_call 118; ((with_reducible refine (H1.out _).mono ?_)); rintro e w1 ⟨rfl, rfl⟩))
            go_ret
            exact ⟨rfl, (((Below.refl _ _).alloc (Nat.le_refl _) _).alloc (by simp) _).alloc (by simp; omega) _⟩
      · have hm1 : m ≤ 1000 := h2.1
        cases hb2 : Fs.inB (kind lo hi l week) m with
        | false =>
          have H2 := Lib.hid (fun W => Hin.out m W false hm1 hb2)
          obtain rfl : (b : Int) = r := by rw [← hr]; simp [Fs.wrongAt, wrongI, hb, hb2]
          clear hr
          show Calls Tryz.prog 79 #[.agg #[.int .i64 lo, .int .i64 hi, .slice A l.length c, .bool week], .agg #[.bool false, .int .i64 n, .int .i64 m, .int .i64 (pn xst), .int .i64 at_, .int .i64 b, .int .i64 (pa xst)]] w _
          go_enter Tryz.func79, Tryz.ntmps79
          go_wp2_with (first | (go_at_call 118; ((with_reducible refine (H1.out _).mono ?_)); rintro e w1 ⟨rfl, rfl⟩) | (go_at_call 118; ((with_reducible refine (H2.out _).mono ?_)); rintro e w2 ⟨rfl, rfl⟩))
          go_ret
          exact ⟨rfl, ((((Below.refl _ _).alloc (Nat.le_refl _) _).alloc (by simp) _).alloc (by simp; omega) _).alloc (by simp; omega) _⟩
        | true =>
          have H2 := Lib.hid (fun W => Hin.out m W true hm1 hb2)
          by_cases hnm : m < n
          ·
            obtain rfl : (at_ : Int) = r := by rw [← hr]; simp [Fs.wrongAt, wrongI, hb, hb2, hnm]
            clear hr
            show Calls Tryz.prog 79 #[.agg #[.int .i64 lo, .int .i64 hi, .slice A l.length c, .bool week], .agg #[.bool false, .int .i64 n, .int .i64 m, .int .i64 (pn xst), .int .i64 at_, .int .i64 b, .int .i64 (pa xst)]] w _
            go_enter Tryz.func79, Tryz.ntmps79
            go_wp2_with (first | (go_at_call 118; ((with_reducible refine (H1.out _).mono ?_)); rintro e w1 ⟨rfl, rfl⟩) | (go_at_call 118; ((with_reducible refine (H2.out _).mono ?_)); rintro e w2 ⟨rfl, rfl⟩))
            go_ret
            exact ⟨rfl, ((((Below.refl _ _).alloc (Nat.le_refl _) _).alloc (by simp) _).alloc (by simp; omega) _).alloc (by simp; omega) _⟩
          ·
            rcases xst with _ | ⟨st, a⟩
            ·
              obtain rfl : (-1 : Int) = r := by rw [← hr]; simp [Fs.wrongAt, wrongI, hb, hb2, hnm]
              clear hr
              show Calls Tryz.prog 79 #[.agg #[.int .i64 lo, .int .i64 hi, .slice A l.length c, .bool week], .agg #[.bool false, .int .i64 n, .int .i64 m, .int .i64 (-1), .int .i64 at_, .int .i64 b, .int .i64 0]] w _
              go_enter Tryz.func79, Tryz.ntmps79
              go_wp2_with (first | (go_at_call 118; ((with_reducible refine (H1.out _).mono ?_)); rintro e w1 ⟨rfl, rfl⟩) | (go_at_call 118; ((with_reducible refine (H2.out _).mono ?_)); rintro e w2 ⟨rfl, rfl⟩))
              go_ret
              exact ⟨rfl, ((((Below.refl _ _).alloc (Nat.le_refl _) _).alloc (by simp) _).alloc (by simp; omega) _).alloc (by simp; omega) _⟩
            · by_cases hm : st = 0
              · subst hm
                obtain rfl : (a : Int) = r := by rw [← hr]; simp [Fs.wrongAt, wrongI, hb, hb2, hnm]
                clear hr
                show Calls Tryz.prog 79 #[.agg #[.int .i64 lo, .int .i64 hi, .slice A l.length c, .bool week], .agg #[.bool false, .int .i64 n, .int .i64 m, .int .i64 0, .int .i64 at_, .int .i64 b, .int .i64 a]] w _
                go_enter Tryz.func79, Tryz.ntmps79
                go_wp2_with (first | (go_at_call 118; ((with_reducible refine (H1.out _).mono ?_)); rintro e w1 ⟨rfl, rfl⟩) | (go_at_call 118; ((with_reducible refine (H2.out _).mono ?_)); rintro e w2 ⟨rfl, rfl⟩))
                go_ret
                exact ⟨rfl, ((((Below.refl _ _).alloc (Nat.le_refl _) _).alloc (by simp) _).alloc (by simp; omega) _).alloc (by simp; omega) _⟩
              ·
                obtain rfl : (-1 : Int) = r := by rw [← hr]; simp [Fs.wrongAt, wrongI, hb, hb2, hnm, hm]
                have hm' : ((st : Int) == 0) = false := by rw [beq_eq_false_iff_ne]; omega
                clear hm
                clear hr
                show Calls Tryz.prog 79 #[.agg #[.int .i64 lo, .int .i64 hi, .slice A l.length c, .bool week], .agg #[.bool false, .int .i64 n, .int .i64 m, .int .i64 st, .int .i64 at_, .int .i64 b, .int .i64 a]] w _
                go_enter Tryz.func79, Tryz.ntmps79
                go_wp2_with (first | (go_at_call 118; ((with_reducible refine (H1.out _).mono ?_)); rintro e w1 ⟨rfl, rfl⟩) | (go_at_call 118; ((with_reducible refine (H2.out _).mono ?_)); rintro e w2 ⟨rfl, rfl⟩))
                go_ret
                exact ⟨rfl, ((((Below.refl _ _).alloc (Nat.le_refl _) _).alloc (by simp) _).alloc (by simp; omega) _).alloc (by simp; omega) _⟩

end Go.Proofs.YtjnlgaeedcklaaaGreatDoor
