/-
  The document's text: the set of an item.
  The document's text: the set of an item, whatever it is.
-/
import Derived.Test.YtjnlgaeedcklaaaGreatDoorFRef4
set_option linter.unusedVariables false
set_option linter.unusedSimpArgs false
namespace Go.Proofs.YtjnlgaeedcklaaaGreatDoor
open Go.RowKit

theorem ret_u64 {a b : Int} (h : a = b) : Ending.returned (.int .u64 a) = .returned (.int .u64 b) := by rw [h]
/-- What holds at each round's head: the number, the set so far, and what is still to come. -/
def NumRel (week : Bool) (H ST R : Nat) (o v : Value) : Prop := ∃ N S : Nat, N ≤ 2000 ∧ v = .int .i64 N ∧ o = .int .u64 S ∧ S < 18446744073709551616 ∧ Fs.setFrom week H ST (H + 1 - N) N S = R
theorem sf_no (hi step n s : Nat) (hs : 0 < step) (hn : n ≤ hi) : Fs.setFrom false hi step (hi + 1 - n) n s = Fs.setFrom false hi step (hi + 1 - (n + step)) (n + step) (s ||| 2 ^ n) := by
  rw [Fs.setFrom_step _ _ _ _ _ hs hn]; rfl
theorem sf_week (hi step n s : Nat) (hs : 0 < step) (hn : n ≤ hi) (h7 : n < 7) : Fs.setFrom true hi step (hi + 1 - n) n s = Fs.setFrom true hi step (hi + 1 - (n + step)) (n + step) (s ||| 2 ^ n) := by
  rw [Fs.setFrom_step _ _ _ _ _ hs hn, if_pos rfl, Nat.mod_eq_of_lt h7]
theorem sf_seven (hi step s : Nat) (hs : 0 < step) (hn : 7 ≤ hi) : Fs.setFrom true hi step (hi + 1 - 7) 7 s = Fs.setFrom true hi step (hi + 1 - (7 + step)) (7 + step) (s ||| 2 ^ 0) := by
  rw [Fs.setFrom_step _ _ _ _ _ hs hn]; rfl

set_option maxRecDepth 100000 in
set_option maxHeartbeats 1000000 in
theorem ref_nums_star1 (lo hi : Nat) (A : Option Addr) (c : Nat) (l : List ByteArray) (week : Bool) (n m st : Nat) (aa a2 a3 : Int) (w : World)
    (hlo : lo ≤ 62) (hhi : hi ≤ 62)  (hwk : week = true → lo = 0 ∧ hi ≤ 7) :
    Calls Tryz.prog 80 #[.agg #[.int .i64 lo, .int .i64 hi, .slice A l.length c, .bool week], .agg #[.bool true, .int .i64 (-1), .int .i64 (-1), .int .i64 (-1), .int .i64 aa, .int .i64 0, .int .i64 0]] w fun e w' =>
      e = .returned (.int .u64 (Fs.setFrom week (hi) (1) (hi + 1 - lo) (lo) 0)) ∧ Below w.heap.size w w' := by
  generalize hR : Fs.setFrom week (hi) (1) (hi + 1 - lo) (lo) 0 = R
  have HR := Lib.hid hR; clear hR
  have Hwk := Lib.hid hwk; clear hwk
  have hST : 0 < 1 := by omega
  have hHb : hi ≤ 62 := by omega
  go_enter Tryz.func80, Tryz.ntmps80
  go_wp2
  go_quiet (fail)
  go_wp2
  try (go_quiet (fail); go_wp2)
  go_loop [8, 9, 10] (fun o v _ => NumRel week (hi) (1) R o v) (fun _ v _ => hi + 1 - (intOf v).toNat)
  case atStart => exact ⟨lo, 0, by omega, rfl, rfl, by omega, HR.out⟩
  case round =>
    obtain ⟨N, S, hN, rfl, rfl, hS, hR⟩ := hrel
    by_cases hlt : N ≤ hi
    · cases week with
      | false =>
        rw [sf_no _ _ _ _ hST hlt] at hR
        have HR2 := Lib.hid hR
        clear hR
        go_wp2
        go_round
        case rel => exact ⟨N + 1, S ||| 2 ^ N, by omega, by go_num, by rw [or_bit _ _ hS (by omega)], or_lt hS (pow_lt (by omega)), HR2.out⟩
        case measure => simp [intOf]; omega
      | true =>
        obtain ⟨hw1, hw2⟩ := Hwk.out rfl
        have h7 : N ≤ 7 := by omega
        by_cases hs7 : N = 7
        · subst hs7
          rw [sf_seven _ _ _ hST hlt] at hR
          have HR2 := Lib.hid hR
          have HB := Lib.hid (or_bit S 0 hS (by omega))
          clear hR
          go_wp2
          go_round
          case rel => exact ⟨7 + 1, S ||| 2 ^ 0, by omega, by go_num, by have := HB.out; simp only [Int.pow_zero] at this; rw [show IntKind.u64.wrap 1 = 1 from rfl] at this; rw [this], or_lt hS (pow_lt (v := 0) (by omega)), HR2.out⟩
          case measure => simp [intOf]; omega
        · rw [sf_week _ _ _ _ hST hlt (by omega)] at hR
          have hne : ((N : Int) == 7) = false := by rw [beq_eq_false_iff_ne]; omega
          have HR2 := Lib.hid hR
          clear hR
          go_wp2
          go_round
          case rel => exact ⟨N + 1, S ||| 2 ^ N, by omega, by go_num, by rw [or_bit _ _ hS (by omega)], or_lt hS (pow_lt (by omega)), HR2.out⟩
          case measure => simp [intOf]; omega
    · have hend := Fs.setFrom_end week (hi) (1) N S (by omega)
      rw [hend] at hR
      have HR2 := Lib.hid hR
      clear hR hend
      go_wp2
      go_ret
      refine ⟨ret_u64 (by rw [HR2.out]), ?_⟩
      exact below_drewN (((Below.refl _ _).alloc (Nat.le_refl _) _).alloc (by simp) _) _

set_option maxRecDepth 100000 in
set_option maxHeartbeats 1000000 in
theorem ref_nums_star2 (lo hi : Nat) (A : Option Addr) (c : Nat) (l : List ByteArray) (week : Bool) (n m st : Nat) (aa a2 a3 : Int) (w : World)
    (hlo : lo ≤ 62) (hhi : hi ≤ 62) (hst : 0 < st) (hst2 : st ≤ 1000) (hwk : week = true → lo = 0 ∧ hi ≤ 7) :
    Calls Tryz.prog 80 #[.agg #[.int .i64 lo, .int .i64 hi, .slice A l.length c, .bool week], .agg #[.bool true, .int .i64 (-1), .int .i64 (-1), .int .i64 st, .int .i64 aa, .int .i64 0, .int .i64 a3]] w fun e w' =>
      e = .returned (.int .u64 (Fs.setFrom week (hi) (st) (hi + 1 - lo) (lo) 0)) ∧ Below w.heap.size w w' := by
  generalize hR : Fs.setFrom week (hi) (st) (hi + 1 - lo) (lo) 0 = R
  have HR := Lib.hid hR; clear hR
  have Hwk := Lib.hid hwk; clear hwk
  have hST : 0 < st := by omega
  have hHb : hi ≤ 62 := by omega
  go_enter Tryz.func80, Tryz.ntmps80
  go_wp2
  go_quiet (fail)
  go_wp2
  try (go_quiet (fail); go_wp2)
  go_loop [8, 9, 10] (fun o v _ => NumRel week (hi) (st) R o v) (fun _ v _ => hi + 1 - (intOf v).toNat)
  case atStart => exact ⟨lo, 0, by omega, rfl, rfl, by omega, HR.out⟩
  case round =>
    obtain ⟨N, S, hN, rfl, rfl, hS, hR⟩ := hrel
    by_cases hlt : N ≤ hi
    · cases week with
      | false =>
        rw [sf_no _ _ _ _ hST hlt] at hR
        have HR2 := Lib.hid hR
        clear hR
        go_wp2
        go_round
        case rel => exact ⟨N + st, S ||| 2 ^ N, by omega, by go_num, by rw [or_bit _ _ hS (by omega)], or_lt hS (pow_lt (by omega)), HR2.out⟩
        case measure => simp [intOf]; omega
      | true =>
        obtain ⟨hw1, hw2⟩ := Hwk.out rfl
        have h7 : N ≤ 7 := by omega
        by_cases hs7 : N = 7
        · subst hs7
          rw [sf_seven _ _ _ hST hlt] at hR
          have HR2 := Lib.hid hR
          have HB := Lib.hid (or_bit S 0 hS (by omega))
          clear hR
          go_wp2
          go_round
          case rel => exact ⟨7 + st, S ||| 2 ^ 0, by omega, by go_num, by have := HB.out; simp only [Int.pow_zero] at this; rw [show IntKind.u64.wrap 1 = 1 from rfl] at this; rw [this], or_lt hS (pow_lt (v := 0) (by omega)), HR2.out⟩
          case measure => simp [intOf]; omega
        · rw [sf_week _ _ _ _ hST hlt (by omega)] at hR
          have hne : ((N : Int) == 7) = false := by rw [beq_eq_false_iff_ne]; omega
          have HR2 := Lib.hid hR
          clear hR
          go_wp2
          go_round
          case rel => exact ⟨N + st, S ||| 2 ^ N, by omega, by go_num, by rw [or_bit _ _ hS (by omega)], or_lt hS (pow_lt (by omega)), HR2.out⟩
          case measure => simp [intOf]; omega
    · have hend := Fs.setFrom_end week (hi) (st) N S (by omega)
      rw [hend] at hR
      have HR2 := Lib.hid hR
      clear hR hend
      go_wp2
      go_ret
      refine ⟨ret_u64 (by rw [HR2.out]), ?_⟩
      exact below_drewN (((Below.refl _ _).alloc (Nat.le_refl _) _).alloc (by simp) _) _

set_option maxRecDepth 100000 in
set_option maxHeartbeats 1000000 in
theorem ref_nums_one1 (lo hi : Nat) (A : Option Addr) (c : Nat) (l : List ByteArray) (week : Bool) (n m st : Nat) (aa a2 a3 : Int) (w : World)
    (hlo : lo ≤ 62) (hhi : hi ≤ 62) (hn : n ≤ 62) (hwk : week = true → lo = 0 ∧ n ≤ 7) :
    Calls Tryz.prog 80 #[.agg #[.int .i64 lo, .int .i64 hi, .slice A l.length c, .bool week], .agg #[.bool false, .int .i64 n, .int .i64 (-1), .int .i64 (-1), .int .i64 aa, .int .i64 0, .int .i64 0]] w fun e w' =>
      e = .returned (.int .u64 (Fs.setFrom week (n) (1) (n + 1 - n) (n) 0)) ∧ Below w.heap.size w w' := by
  generalize hR : Fs.setFrom week (n) (1) (n + 1 - n) (n) 0 = R
  have HR := Lib.hid hR; clear hR
  have Hwk := Lib.hid hwk; clear hwk
  have hST : 0 < 1 := by omega
  have hHb : n ≤ 62 := by omega
  go_enter Tryz.func80, Tryz.ntmps80
  go_wp2
  go_quiet (fail)
  go_wp2
  try (go_quiet (fail); go_wp2)
  go_loop [8, 9, 10] (fun o v _ => NumRel week (n) (1) R o v) (fun _ v _ => n + 1 - (intOf v).toNat)
  case atStart => exact ⟨n, 0, by omega, rfl, rfl, by omega, HR.out⟩
  case round =>
    obtain ⟨N, S, hN, rfl, rfl, hS, hR⟩ := hrel
    by_cases hlt : N ≤ n
    · cases week with
      | false =>
        rw [sf_no _ _ _ _ hST hlt] at hR
        have HR2 := Lib.hid hR
        clear hR
        go_wp2
        go_round
        case rel => exact ⟨N + 1, S ||| 2 ^ N, by omega, by go_num, by rw [or_bit _ _ hS (by omega)], or_lt hS (pow_lt (by omega)), HR2.out⟩
        case measure => simp [intOf]; omega
      | true =>
        obtain ⟨hw1, hw2⟩ := Hwk.out rfl
        have h7 : N ≤ 7 := by omega
        by_cases hs7 : N = 7
        · subst hs7
          rw [sf_seven _ _ _ hST hlt] at hR
          have HR2 := Lib.hid hR
          have HB := Lib.hid (or_bit S 0 hS (by omega))
          clear hR
          go_wp2
          go_round
          case rel => exact ⟨7 + 1, S ||| 2 ^ 0, by omega, by go_num, by have := HB.out; simp only [Int.pow_zero] at this; rw [show IntKind.u64.wrap 1 = 1 from rfl] at this; rw [this], or_lt hS (pow_lt (v := 0) (by omega)), HR2.out⟩
          case measure => simp [intOf]; omega
        · rw [sf_week _ _ _ _ hST hlt (by omega)] at hR
          have hne : ((N : Int) == 7) = false := by rw [beq_eq_false_iff_ne]; omega
          have HR2 := Lib.hid hR
          clear hR
          go_wp2
          go_round
          case rel => exact ⟨N + 1, S ||| 2 ^ N, by omega, by go_num, by rw [or_bit _ _ hS (by omega)], or_lt hS (pow_lt (by omega)), HR2.out⟩
          case measure => simp [intOf]; omega
    · have hend := Fs.setFrom_end week (n) (1) N S (by omega)
      rw [hend] at hR
      have HR2 := Lib.hid hR
      clear hR hend
      go_wp2
      go_ret
      refine ⟨ret_u64 (by rw [HR2.out]), ?_⟩
      exact below_drewN (((Below.refl _ _).alloc (Nat.le_refl _) _).alloc (by simp) _) _

set_option maxRecDepth 100000 in
set_option maxHeartbeats 1000000 in
theorem ref_nums_one2 (lo hi : Nat) (A : Option Addr) (c : Nat) (l : List ByteArray) (week : Bool) (n m st : Nat) (aa a2 a3 : Int) (w : World)
    (hlo : lo ≤ 62) (hhi : hi ≤ 62) (hn : n ≤ 62) (h : Nat) (hmax : max (n : Int) (hi : Int) = (h : Int)) (hh : h ≤ 62) (hst : 0 < st) (hst2 : st ≤ 1000) (hwk : week = true → lo = 0 ∧ h ≤ 7) :
    Calls Tryz.prog 80 #[.agg #[.int .i64 lo, .int .i64 hi, .slice A l.length c, .bool week], .agg #[.bool false, .int .i64 n, .int .i64 (-1), .int .i64 st, .int .i64 aa, .int .i64 0, .int .i64 a3]] w fun e w' =>
      e = .returned (.int .u64 (Fs.setFrom week (h) (st) (h + 1 - n) (n) 0)) ∧ Below w.heap.size w w' := by
  generalize hR : Fs.setFrom week (h) (st) (h + 1 - n) (n) 0 = R
  have HR := Lib.hid hR; clear hR
  have Hwk := Lib.hid hwk; clear hwk
  have hST : 0 < st := by omega
  have hHb : h ≤ 62 := by omega
  go_enter Tryz.func80, Tryz.ntmps80
  go_wp2
  go_quiet (fail)
  go_wp2
  try (go_quiet (fail); go_wp2)
  go_loop [8, 9, 10] (fun o v _ => NumRel week (h) (st) R o v) (fun _ v _ => h + 1 - (intOf v).toNat)
  case atStart => exact ⟨n, 0, by omega, rfl, rfl, by omega, HR.out⟩
  case round =>
    obtain ⟨N, S, hN, rfl, rfl, hS, hR⟩ := hrel
    by_cases hlt : N ≤ h
    · cases week with
      | false =>
        rw [sf_no _ _ _ _ hST hlt] at hR
        have HR2 := Lib.hid hR
        clear hR
        go_wp2
        go_round
        case rel => exact ⟨N + st, S ||| 2 ^ N, by omega, by go_num, by rw [or_bit _ _ hS (by omega)], or_lt hS (pow_lt (by omega)), HR2.out⟩
        case measure => simp [intOf]; omega
      | true =>
        obtain ⟨hw1, hw2⟩ := Hwk.out rfl
        have h7 : N ≤ 7 := by omega
        by_cases hs7 : N = 7
        · subst hs7
          rw [sf_seven _ _ _ hST hlt] at hR
          have HR2 := Lib.hid hR
          have HB := Lib.hid (or_bit S 0 hS (by omega))
          clear hR
          go_wp2
          go_round
          case rel => exact ⟨7 + st, S ||| 2 ^ 0, by omega, by go_num, by have := HB.out; simp only [Int.pow_zero] at this; rw [show IntKind.u64.wrap 1 = 1 from rfl] at this; rw [this], or_lt hS (pow_lt (v := 0) (by omega)), HR2.out⟩
          case measure => simp [intOf]; omega
        · rw [sf_week _ _ _ _ hST hlt (by omega)] at hR
          have hne : ((N : Int) == 7) = false := by rw [beq_eq_false_iff_ne]; omega
          have HR2 := Lib.hid hR
          clear hR
          go_wp2
          go_round
          case rel => exact ⟨N + st, S ||| 2 ^ N, by omega, by go_num, by rw [or_bit _ _ hS (by omega)], or_lt hS (pow_lt (by omega)), HR2.out⟩
          case measure => simp [intOf]; omega
    · have hend := Fs.setFrom_end week (h) (st) N S (by omega)
      rw [hend] at hR
      have HR2 := Lib.hid hR
      clear hR hend
      go_wp2
      go_ret
      refine ⟨ret_u64 (by rw [HR2.out]), ?_⟩
      exact below_drewN (((Below.refl _ _).alloc (Nat.le_refl _) _).alloc (by simp) _) _

set_option maxRecDepth 100000 in
set_option maxHeartbeats 1000000 in
theorem ref_nums_two1 (lo hi : Nat) (A : Option Addr) (c : Nat) (l : List ByteArray) (week : Bool) (n m st : Nat) (aa a2 a3 : Int) (w : World)
    (hlo : lo ≤ 62) (hhi : hi ≤ 62) (hn : n ≤ 62) (hm : m ≤ 62) (hwk : week = true → lo = 0 ∧ m ≤ 7) :
    Calls Tryz.prog 80 #[.agg #[.int .i64 lo, .int .i64 hi, .slice A l.length c, .bool week], .agg #[.bool false, .int .i64 n, .int .i64 m, .int .i64 (-1), .int .i64 aa, .int .i64 a2, .int .i64 0]] w fun e w' =>
      e = .returned (.int .u64 (Fs.setFrom week (m) (1) (m + 1 - n) (n) 0)) ∧ Below w.heap.size w w' := by
  generalize hR : Fs.setFrom week (m) (1) (m + 1 - n) (n) 0 = R
  have HR := Lib.hid hR; clear hR
  have Hwk := Lib.hid hwk; clear hwk
  have hST : 0 < 1 := by omega
  have hHb : m ≤ 62 := by omega
  go_enter Tryz.func80, Tryz.ntmps80
  go_wp2
  go_quiet (fail)
  go_wp2
  try (go_quiet (fail); go_wp2)
  go_loop [8, 9, 10] (fun o v _ => NumRel week (m) (1) R o v) (fun _ v _ => m + 1 - (intOf v).toNat)
  case atStart => exact ⟨n, 0, by omega, rfl, rfl, by omega, HR.out⟩
  case round =>
    obtain ⟨N, S, hN, rfl, rfl, hS, hR⟩ := hrel
    by_cases hlt : N ≤ m
    · cases week with
      | false =>
        rw [sf_no _ _ _ _ hST hlt] at hR
        have HR2 := Lib.hid hR
        clear hR
        go_wp2
        go_round
        case rel => exact ⟨N + 1, S ||| 2 ^ N, by omega, by go_num, by rw [or_bit _ _ hS (by omega)], or_lt hS (pow_lt (by omega)), HR2.out⟩
        case measure => simp [intOf]; omega
      | true =>
        obtain ⟨hw1, hw2⟩ := Hwk.out rfl
        have h7 : N ≤ 7 := by omega
        by_cases hs7 : N = 7
        · subst hs7
          rw [sf_seven _ _ _ hST hlt] at hR
          have HR2 := Lib.hid hR
          have HB := Lib.hid (or_bit S 0 hS (by omega))
          clear hR
          go_wp2
          go_round
          case rel => exact ⟨7 + 1, S ||| 2 ^ 0, by omega, by go_num, by have := HB.out; simp only [Int.pow_zero] at this; rw [show IntKind.u64.wrap 1 = 1 from rfl] at this; rw [this], or_lt hS (pow_lt (v := 0) (by omega)), HR2.out⟩
          case measure => simp [intOf]; omega
        · rw [sf_week _ _ _ _ hST hlt (by omega)] at hR
          have hne : ((N : Int) == 7) = false := by rw [beq_eq_false_iff_ne]; omega
          have HR2 := Lib.hid hR
          clear hR
          go_wp2
          go_round
          case rel => exact ⟨N + 1, S ||| 2 ^ N, by omega, by go_num, by rw [or_bit _ _ hS (by omega)], or_lt hS (pow_lt (by omega)), HR2.out⟩
          case measure => simp [intOf]; omega
    · have hend := Fs.setFrom_end week (m) (1) N S (by omega)
      rw [hend] at hR
      have HR2 := Lib.hid hR
      clear hR hend
      go_wp2
      go_ret
      refine ⟨ret_u64 (by rw [HR2.out]), ?_⟩
      exact below_drewN (((Below.refl _ _).alloc (Nat.le_refl _) _).alloc (by simp) _) _

set_option maxRecDepth 100000 in
set_option maxHeartbeats 1000000 in
theorem ref_nums_two2 (lo hi : Nat) (A : Option Addr) (c : Nat) (l : List ByteArray) (week : Bool) (n m st : Nat) (aa a2 a3 : Int) (w : World)
    (hlo : lo ≤ 62) (hhi : hi ≤ 62) (hn : n ≤ 62) (hm : m ≤ 62) (hst : 0 < st) (hst2 : st ≤ 1000) (hwk : week = true → lo = 0 ∧ m ≤ 7) :
    Calls Tryz.prog 80 #[.agg #[.int .i64 lo, .int .i64 hi, .slice A l.length c, .bool week], .agg #[.bool false, .int .i64 n, .int .i64 m, .int .i64 st, .int .i64 aa, .int .i64 a2, .int .i64 a3]] w fun e w' =>
      e = .returned (.int .u64 (Fs.setFrom week (m) (st) (m + 1 - n) (n) 0)) ∧ Below w.heap.size w w' := by
  generalize hR : Fs.setFrom week (m) (st) (m + 1 - n) (n) 0 = R
  have HR := Lib.hid hR; clear hR
  have Hwk := Lib.hid hwk; clear hwk
  have hST : 0 < st := by omega
  have hHb : m ≤ 62 := by omega
  go_enter Tryz.func80, Tryz.ntmps80
  go_wp2
  go_quiet (fail)
  go_wp2
  try (go_quiet (fail); go_wp2)
  go_loop [8, 9, 10] (fun o v _ => NumRel week (m) (st) R o v) (fun _ v _ => m + 1 - (intOf v).toNat)
  case atStart => exact ⟨n, 0, by omega, rfl, rfl, by omega, HR.out⟩
  case round =>
    obtain ⟨N, S, hN, rfl, rfl, hS, hR⟩ := hrel
    by_cases hlt : N ≤ m
    · cases week with
      | false =>
        rw [sf_no _ _ _ _ hST hlt] at hR
        have HR2 := Lib.hid hR
        clear hR
        go_wp2
        go_round
        case rel => exact ⟨N + st, S ||| 2 ^ N, by omega, by go_num, by rw [or_bit _ _ hS (by omega)], or_lt hS (pow_lt (by omega)), HR2.out⟩
        case measure => simp [intOf]; omega
      | true =>
        obtain ⟨hw1, hw2⟩ := Hwk.out rfl
        have h7 : N ≤ 7 := by omega
        by_cases hs7 : N = 7
        · subst hs7
          rw [sf_seven _ _ _ hST hlt] at hR
          have HR2 := Lib.hid hR
          have HB := Lib.hid (or_bit S 0 hS (by omega))
          clear hR
          go_wp2
          go_round
          case rel => exact ⟨7 + st, S ||| 2 ^ 0, by omega, by go_num, by have := HB.out; simp only [Int.pow_zero] at this; rw [show IntKind.u64.wrap 1 = 1 from rfl] at this; rw [this], or_lt hS (pow_lt (v := 0) (by omega)), HR2.out⟩
          case measure => simp [intOf]; omega
        · rw [sf_week _ _ _ _ hST hlt (by omega)] at hR
          have hne : ((N : Int) == 7) = false := by rw [beq_eq_false_iff_ne]; omega
          have HR2 := Lib.hid hR
          clear hR
          go_wp2
          go_round
          case rel => exact ⟨N + st, S ||| 2 ^ N, by omega, by go_num, by rw [or_bit _ _ hS (by omega)], or_lt hS (pow_lt (by omega)), HR2.out⟩
          case measure => simp [intOf]; omega
    · have hend := Fs.setFrom_end week (m) (st) N S (by omega)
      rw [hend] at hR
      have HR2 := Lib.hid hR
      clear hR hend
      go_wp2
      go_ret
      refine ⟨ret_u64 (by rw [HR2.out]), ?_⟩
      exact below_drewN (((Below.refl _ _).alloc (Nat.le_refl _) _).alloc (by simp) _) _

end Go.Proofs.YtjnlgaeedcklaaaGreatDoor

namespace Go.Proofs.YtjnlgaeedcklaaaGreatDoor
open Go.RowKit

/-- A kind whose bounds are allowed. -/
def Okk (lo hi : Nat) (week : Bool) : Prop := lo ≤ hi ∧ hi ≤ 62 ∧ (week = true → lo = 0 ∧ hi = 6)

theorem inB_le {lo hi : Nat} {l : List ByteArray} {week : Bool} {n : Nat} (hk : Okk lo hi week) (h : Fs.inB (kind lo hi l week) n = true) : n ≤ 62 ∧ (week = true → n ≤ 7) := by
  obtain ⟨h1, h2, h3⟩ := hk
  simp only [Fs.inB, kind, Bool.or_eq_true, Bool.and_eq_true, decide_eq_true_eq] at h
  constructor
  · rcases h with ⟨_, h⟩ | ⟨hw, h⟩
    · have h : n ≤ hi := by simpa using h
      omega
    · have := h3 hw
      omega
  · intro hw
    have := h3 hw
    rcases h with ⟨_, h⟩ | ⟨hw, h⟩
    · have h : n ≤ hi := by simpa using h
      omega
    · omega

set_option maxHeartbeats 1000000 in
theorem ref_numbers (lo hi : Nat) (A : Option Addr) (c : Nat) (l : List ByteArray) (week : Bool) (x : Fs.Item) (w : World) (hk : Okk lo hi week) (hx : Wf x) (hw : Fs.wrongAt (kind lo hi l week) x = none) :
    Calls Tryz.prog 80 #[.agg #[.int .i64 lo, .int .i64 hi, .slice A l.length c, .bool week], encR x] w fun e w' =>
      e = .returned (.int .u64 (Fs.itemSet (kind lo hi l week) x 0)) ∧ Below w.heap.size w w' := by
  obtain ⟨star, at_, xlo, xhi, xst⟩ := x
  obtain ⟨ha, s1, s2, s3, s4⟩ := hx
  simp only at ha s1 s2 s3 s4
  obtain ⟨h1, h2, h3⟩ := hk
  have hk : Okk lo hi week := ⟨h1, h2, h3⟩
  rcases s4 with ⟨rfl, rfl, rfl⟩ | ⟨rfl, n, rfl⟩
  · rcases xst with _ | ⟨st, a⟩
    · exact ref_nums_star1 lo hi A c l week 0 0 0 at_ 0 0 w (by omega) h2 (fun h => ⟨(h3 h).1, by have := h3 h; omega⟩)
    · have hst : st ≠ 0 := by
        intro h; subst h; simp [Fs.wrongAt] at hw
      exact ref_nums_star2 lo hi A c l week 0 0 st at_ 0 a w (by omega) h2 (by omega) s3.1 (fun h => ⟨(h3 h).1, by have := h3 h; omega⟩)
  · have hb : Fs.inB (kind lo hi l week) n = true := by
      cases hb : Fs.inB (kind lo hi l week) n with
      | true => rfl
      | false => simp [Fs.wrongAt, hb] at hw
    obtain ⟨n1, n2⟩ := inB_le hk hb
    rcases xhi with _ | ⟨m, b⟩
    · rcases xst with _ | ⟨st, a⟩
      · exact ref_nums_one1 lo hi A c l week n 0 0 at_ 0 0 w (by omega) h2 n1 (fun h => ⟨(h3 h).1, n2 h⟩)
      · have hst : st ≠ 0 := by
          intro h; subst h; simp [Fs.wrongAt, hb] at hw
        have e : Fs.itemSet (kind lo hi l week) ⟨false, at_, some (n, at_), none, some (st, a)⟩ 0 = Fs.setFrom week (max n hi) st (max n hi + 1 - n) n 0 := by
          simp [Fs.itemSet, Fs.itemHi, Fs.itemLo, Fs.itemStep, kind]
        rw [e]
        exact ref_nums_one2 lo hi A c l week n 0 st at_ 0 a w (by omega) h2 n1 (max n hi) (by omega) (by omega) (by omega) s3.1 (fun h => ⟨(h3 h).1, by have := h3 h; have := n2 h; omega⟩)
    · have hb2 : Fs.inB (kind lo hi l week) m = true := by
        cases hb2 : Fs.inB (kind lo hi l week) m with
        | true => rfl
        | false => simp [Fs.wrongAt, hb, hb2] at hw
      obtain ⟨m1, m2⟩ := inB_le hk hb2
      rcases xst with _ | ⟨st, a⟩
      · exact ref_nums_two1 lo hi A c l week n m 0 at_ b 0 w (by omega) h2 n1 m1 (fun h => ⟨(h3 h).1, m2 h⟩)
      · have hst : st ≠ 0 := by
          intro h; subst h
          by_cases hnm : m < n <;> simp [Fs.wrongAt, hb, hb2, hnm] at hw
        exact ref_nums_two2 lo hi A c l week n m st at_ b a w (by omega) h2 n1 m1 (by omega) s3.1 (fun h => ⟨(h3 h).1, m2 h⟩)

end Go.Proofs.YtjnlgaeedcklaaaGreatDoor
