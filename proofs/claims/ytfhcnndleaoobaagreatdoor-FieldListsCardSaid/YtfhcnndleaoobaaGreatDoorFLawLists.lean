/-
  FieldLists: the walk, the row, the card.
-/
import Derived.Test.YtfhcnndleaoobaaGreatDoorFRow
import Derived.Test.YtfhcnndleaoobaaGreatDoorFSixPlain
import Derived.ChangeMaps5
set_option linter.unusedVariables false
set_option linter.unusedSimpArgs false
namespace Go.Proofs.YtfhcnndleaoobaaGreatDoor.fieldLists
open Go.ChangeShapes Go.WideShapes Go.ChangeAt Go.RowKit

set_option maxRecDepth 100000 in
set_option maxHeartbeats 4000000 in
theorem walk (a0 : Int) (s t : ByteArray) (w0 : (Lit.int .u8 a0).wf = true) (w1 : s.size ≤ maxLen) (w2 : t.size ≤ maxLen) (w : World) (hT : Tabs w) :
    Calls Tryz.prog 8 #[.int .u8 a0, .string s, .string t] w fun e w' => e = .returned (.bool true) ∧ Below w.heap.size w w' := by
  obtain ⟨n, rfl, hn⟩ := u8_nat w0
  obtain ⟨lo, hi, l, week, hk, hsix⟩ := six_ok n hn
  obtain ⟨f1, f2, f3, f4, f5, f6, f7, f8⟩ := hk.facts
  have hw1 : s.size ≤ 9223372036854775807 := w1
  have hw2 : t.size ≤ 9223372036854775807 := w2
  have H6 := Lib.hid hsix
  have HT := Lib.hid hT
  by_cases hls : 150 < s.size
  · clear hsix hT hk f1 f2 f3 f4 f5 f6 f7 f8 w0 w1 w2
    generalize Fs.full (kind lo hi l week) = fu at *
    generalize hhi : hi = hi' at *
    go_enter Tryz.func8, Tryz.ntmps8
    go_wp2_with (first
      | (go_at_call 32; (with_reducible refine (H6.out _ HT.out).mono ?_); rintro e x1 ⟨A, c, rfl, hb1, hk1⟩
         have B1 := Lib.hid hb1; have K1 := Lib.hid hk1; have T1 := Lib.hid (HT.out.grow hb1); clear hb1 hk1)
      | (go_at_call 14; (with_reducible refine (works_true _ (T1.out.alloc _)).mono ?_); rintro e x2 ⟨rfl, hb2⟩
         have B2 := Lib.hid ((B1.out.alloc B1.out.size _).trans (hb2.mono (by have := B1.out.size; simp; omega))); clear hb2))
    all_goals (go_ret; exact ⟨rfl, B2.out⟩)
  by_cases hlt : 150 < t.size
  · clear hsix hT hk f1 f2 f3 f4 f5 f6 f7 f8 w0 w1 w2
    generalize Fs.full (kind lo hi l week) = fu at *
    generalize hhi : hi = hi' at *
    go_enter Tryz.func8, Tryz.ntmps8
    go_wp2_with (first
      | (go_at_call 32; (with_reducible refine (H6.out _ HT.out).mono ?_); rintro e x1 ⟨A, c, rfl, hb1, hk1⟩
         have B1 := Lib.hid hb1; have K1 := Lib.hid hk1; have T1 := Lib.hid (HT.out.grow hb1); clear hb1 hk1)
      | (go_at_call 14; (with_reducible refine (works_true _ (T1.out.alloc _)).mono ?_); rintro e x2 ⟨rfl, hb2⟩
         have B2 := Lib.hid ((B1.out.alloc B1.out.size _).trans (hb2.mono (by have := B1.out.size; simp; omega))); clear hb2))
    all_goals (go_ret; exact ⟨rfl, B2.out⟩)
  have hs3 : s.size ≤ 100000 := by omega
  have ht3 : t.size ≤ 100000 := by omega
  have hfs := Fs.parse_facts f1 s.data.toList
  have hft := Fs.parse_facts f1 t.data.toList
  have hPs := Fs.parse_lt f1 s.data.toList
  have hPt := Fs.parse_lt f1 t.data.toList
  rcases hp : Fs.parse (kind lo hi l week) s.data.toList with ⟨a, star, x, e⟩
  rcases hq : Fs.parse (kind lo hi l week) t.data.toList with ⟨b, is, y, f⟩
  have hc := Fs.parse_comma (kind lo hi l week) s.data.toList t.data.toList f1 a x b y star is e f hp hq
  rw [hp] at hfs hPs
  rw [hq] at hft hPt
  simp only at hfs hft hPs hPt
  have e1 : s.data.toList.length = s.size := rfl
  have e2 : t.data.toList.length = t.size := rfl
  rw [e1] at hfs hc
  rw [e2] at hft
  have hor := u64_or_nat a b hPs hPt
  have hx : x ≤ 150 := by omega
  have hy : y ≤ 150 := by omega
  have hee : e = 0 ∨ e = 2 ∨ e = 10 := by omega
  have hff : f = 0 ∨ f = 2 ∨ f = 10 := by omega
  clear hfs hft
  have hU : ∀ S r P g, Fs.parse (kind lo hi l week) (s.data.toList ++ 44 :: t.data.toList) = (S, r, P, g) → Fs.parse (kind lo hi l week) (s ++ (⟨#[44]⟩ : ByteArray) ++ t).data.toList = (S, r, P, g) := by
    intro S r P g h
    rw [← h]; congr 1; simp
  have hus : (s ++ (⟨#[44]⟩ : ByteArray) ++ t).size ≤ 100000 := by
    simp only [ByteArray.size_append]; show s.size + 1 + t.size ≤ 100000; omega
  rcases hee with he | he | he <;> rcases hff with hf | hf | hf
  · subst he hf
    rw [if_pos (by decide)] at hc
    have hc := hU _ _ _ _ hc
    have G1 : Hid (∀ A c W, KindAt W (n % 6) lo hi A c l week → Tabs W → Calls Tryz.prog 15 #[.agg #[.int .i64 lo, .int .i64 hi, .slice A l.length c, .bool week], .string s] W fun e w' => e = .returned (.tuple #[.int .u64 a, .bool star, .int .i64 x, .int .i64 0]) ∧ Below W.heap.size W w') :=
      Lib.hid fun A c W h hT => by have := kd_Parse h hT s hs3; rw [hp] at this; exact this
    have G2 : Hid (∀ A c W, KindAt W (n % 6) lo hi A c l week → Tabs W → Calls Tryz.prog 15 #[.agg #[.int .i64 lo, .int .i64 hi, .slice A l.length c, .bool week], .string t] W fun e w' => e = .returned (.tuple #[.int .u64 b, .bool is, .int .i64 y, .int .i64 0]) ∧ Below W.heap.size W w') :=
      Lib.hid fun A c W h hT => by have := kd_Parse h hT t ht3; rw [hq] at this; exact this
    have G3 : Hid (∀ A c W, KindAt W (n % 6) lo hi A c l week → Tabs W → Calls Tryz.prog 15 #[.agg #[.int .i64 lo, .int .i64 hi, .slice A l.length c, .bool week], .string (s ++ (⟨#[44]⟩ : ByteArray) ++ t)] W fun e w' => e = .returned (.tuple #[.int .u64 ((a ||| b : Nat) : Int), .bool false, .int .i64 0, .int .i64 0]) ∧ Below W.heap.size W w') :=
      Lib.hid fun A c W h hT => by have := kd_Parse h hT _ hus; rw [hc] at this; exact this
    generalize Fs.full (kind lo hi l week) = fu at *
    generalize hhi : hi = hi' at *
    clear hsix hT hk f1 f2 f3 f4 f5 f6 f7 f8 w0 w1 w2 hp hq hc hU hPs hPt
    go_enter Tryz.func8, Tryz.ntmps8
    go_wp2_with (first
      | (go_at_call 32; (with_reducible refine (H6.out _ HT.out).mono ?_); rintro e x1 ⟨A, c, rfl, hb1, hk1⟩
         have B1 := Lib.hid hb1; have K1 := Lib.hid hk1; have T1 := Lib.hid (HT.out.grow hb1); clear hb1 hk1)
      | (go_at_call 15; (with_reducible refine (G1.out _ _ _ (K1.out.alloc _) (T1.out.alloc _)).mono ?_); rintro e x2 ⟨rfl, hb2⟩
         obtain ⟨hc2, hf2⟩ := bcell hb2; have s2 : x1.heap.size < x2.heap.size := by have := hb2.size; simp at this; omega
         have B2 := Lib.hid ((B1.out.alloc B1.out.size _).trans (hb2.mono (by have := B1.out.size; simp; omega))); have K2 := Lib.hid ((K1.out.alloc _).grow hb2); have T2 := Lib.hid ((T1.out.alloc _).grow hb2); clear hb2)
      | (go_at_call 15; (with_reducible refine (G2.out _ _ _ K2.out T2.out).mono ?_); rintro e x3 ⟨rfl, hb2⟩
         obtain ⟨hc3, hf3⟩ := bcell hb2; have s3 : x1.heap.size < x3.heap.size := by have := hb2.size; omega
         have B3 := Lib.hid (B2.out.trans (hb2.mono B2.out.size)); have K3 := Lib.hid (K2.out.grow hb2); have T3 := Lib.hid (T2.out.grow hb2); clear hb2)
      | (go_at_call 15; (with_reducible refine (G3.out _ _ _ K3.out T3.out).mono ?_); rintro e x4 ⟨rfl, hb2⟩
         obtain ⟨hc4, hf4⟩ := bcell hb2; have s4 : x1.heap.size < x4.heap.size := by have := hb2.size; omega
         have B4 := Lib.hid (B3.out.trans (hb2.mono B3.out.size)); have K4 := Lib.hid (K3.out.grow hb2); have T4 := Lib.hid (T3.out.grow hb2); clear hb2)
      | (go_at_call 14; (with_reducible refine (works_true _ T4.out).mono ?_); rintro e x5 ⟨rfl, hb2⟩
         have B5 := Lib.hid (B4.out.trans (hb2.mono B4.out.size)); clear hb2))
    all_goals (go_ret; exact ⟨rfl, B5.out⟩)
  · subst he hf
    rw [if_neg (by decide), if_pos (by decide)] at hc
    have hc := hU _ _ _ _ hc
    have G1 : Hid (∀ A c W, KindAt W (n % 6) lo hi A c l week → Tabs W → Calls Tryz.prog 15 #[.agg #[.int .i64 lo, .int .i64 hi, .slice A l.length c, .bool week], .string s] W fun e w' => e = .returned (.tuple #[.int .u64 a, .bool star, .int .i64 x, .int .i64 0]) ∧ Below W.heap.size W w') :=
      Lib.hid fun A c W h hT => by have := kd_Parse h hT s hs3; rw [hp] at this; exact this
    have G2 : Hid (∀ A c W, KindAt W (n % 6) lo hi A c l week → Tabs W → Calls Tryz.prog 15 #[.agg #[.int .i64 lo, .int .i64 hi, .slice A l.length c, .bool week], .string t] W fun e w' => e = .returned (.tuple #[.int .u64 b, .bool is, .int .i64 y, .int .i64 2]) ∧ Below W.heap.size W w') :=
      Lib.hid fun A c W h hT => by have := kd_Parse h hT t ht3; rw [hq] at this; exact this
    have G3 : Hid (∀ A c W, KindAt W (n % 6) lo hi A c l week → Tabs W → Calls Tryz.prog 15 #[.agg #[.int .i64 lo, .int .i64 hi, .slice A l.length c, .bool week], .string (s ++ (⟨#[44]⟩ : ByteArray) ++ t)] W fun e w' => e = .returned (.tuple #[.int .u64 0, .bool false, .int .i64 ((y + (s.size + 1) : Nat) : Int), .int .i64 2]) ∧ Below W.heap.size W w') :=
      Lib.hid fun A c W h hT => by have := kd_Parse h hT _ hus; rw [hc] at this; exact this
    generalize Fs.full (kind lo hi l week) = fu at *
    generalize hhi : hi = hi' at *
    clear hsix hT hk f1 f2 f3 f4 f5 f6 f7 f8 w0 w1 w2 hp hq hc hU hPs hPt
    go_enter Tryz.func8, Tryz.ntmps8
    go_wp2_with (first
      | (go_at_call 32; (with_reducible refine (H6.out _ HT.out).mono ?_); rintro e x1 ⟨A, c, rfl, hb1, hk1⟩
         have B1 := Lib.hid hb1; have K1 := Lib.hid hk1; have T1 := Lib.hid (HT.out.grow hb1); clear hb1 hk1)
      | (go_at_call 15; (with_reducible refine (G1.out _ _ _ (K1.out.alloc _) (T1.out.alloc _)).mono ?_); rintro e x2 ⟨rfl, hb2⟩
         obtain ⟨hc2, hf2⟩ := bcell hb2; have s2 : x1.heap.size < x2.heap.size := by have := hb2.size; simp at this; omega
         have B2 := Lib.hid ((B1.out.alloc B1.out.size _).trans (hb2.mono (by have := B1.out.size; simp; omega))); have K2 := Lib.hid ((K1.out.alloc _).grow hb2); have T2 := Lib.hid ((T1.out.alloc _).grow hb2); clear hb2)
      | (go_at_call 15; (with_reducible refine (G2.out _ _ _ K2.out T2.out).mono ?_); rintro e x3 ⟨rfl, hb2⟩
         obtain ⟨hc3, hf3⟩ := bcell hb2; have s3 : x1.heap.size < x3.heap.size := by have := hb2.size; omega
         have B3 := Lib.hid (B2.out.trans (hb2.mono B2.out.size)); have K3 := Lib.hid (K2.out.grow hb2); have T3 := Lib.hid (T2.out.grow hb2); clear hb2)
      | (go_at_call 15; (with_reducible refine (G3.out _ _ _ K3.out T3.out).mono ?_); rintro e x4 ⟨rfl, hb2⟩
         obtain ⟨hc4, hf4⟩ := bcell hb2; have s4 : x1.heap.size < x4.heap.size := by have := hb2.size; omega
         have B4 := Lib.hid (B3.out.trans (hb2.mono B3.out.size)); have K4 := Lib.hid (K3.out.grow hb2); have T4 := Lib.hid (T3.out.grow hb2); clear hb2)
      | (go_at_call 14; (with_reducible refine (works_true _ T4.out).mono ?_); rintro e x5 ⟨rfl, hb2⟩
         have B5 := Lib.hid (B4.out.trans (hb2.mono B4.out.size)); clear hb2))
    all_goals (go_ret; exact ⟨rfl, B5.out⟩)
  · subst he hf
    rw [if_neg (by decide), if_pos (by decide)] at hc
    have hc := hU _ _ _ _ hc
    have G1 : Hid (∀ A c W, KindAt W (n % 6) lo hi A c l week → Tabs W → Calls Tryz.prog 15 #[.agg #[.int .i64 lo, .int .i64 hi, .slice A l.length c, .bool week], .string s] W fun e w' => e = .returned (.tuple #[.int .u64 a, .bool star, .int .i64 x, .int .i64 0]) ∧ Below W.heap.size W w') :=
      Lib.hid fun A c W h hT => by have := kd_Parse h hT s hs3; rw [hp] at this; exact this
    have G2 : Hid (∀ A c W, KindAt W (n % 6) lo hi A c l week → Tabs W → Calls Tryz.prog 15 #[.agg #[.int .i64 lo, .int .i64 hi, .slice A l.length c, .bool week], .string t] W fun e w' => e = .returned (.tuple #[.int .u64 b, .bool is, .int .i64 y, .int .i64 10]) ∧ Below W.heap.size W w') :=
      Lib.hid fun A c W h hT => by have := kd_Parse h hT t ht3; rw [hq] at this; exact this
    have G3 : Hid (∀ A c W, KindAt W (n % 6) lo hi A c l week → Tabs W → Calls Tryz.prog 15 #[.agg #[.int .i64 lo, .int .i64 hi, .slice A l.length c, .bool week], .string (s ++ (⟨#[44]⟩ : ByteArray) ++ t)] W fun e w' => e = .returned (.tuple #[.int .u64 0, .bool false, .int .i64 ((y + (s.size + 1) : Nat) : Int), .int .i64 10]) ∧ Below W.heap.size W w') :=
      Lib.hid fun A c W h hT => by have := kd_Parse h hT _ hus; rw [hc] at this; exact this
    generalize Fs.full (kind lo hi l week) = fu at *
    generalize hhi : hi = hi' at *
    clear hsix hT hk f1 f2 f3 f4 f5 f6 f7 f8 w0 w1 w2 hp hq hc hU hPs hPt
    go_enter Tryz.func8, Tryz.ntmps8
    go_wp2_with (first
      | (go_at_call 32; (with_reducible refine (H6.out _ HT.out).mono ?_); rintro e x1 ⟨A, c, rfl, hb1, hk1⟩
         have B1 := Lib.hid hb1; have K1 := Lib.hid hk1; have T1 := Lib.hid (HT.out.grow hb1); clear hb1 hk1)
      | (go_at_call 15; (with_reducible refine (G1.out _ _ _ (K1.out.alloc _) (T1.out.alloc _)).mono ?_); rintro e x2 ⟨rfl, hb2⟩
         obtain ⟨hc2, hf2⟩ := bcell hb2; have s2 : x1.heap.size < x2.heap.size := by have := hb2.size; simp at this; omega
         have B2 := Lib.hid ((B1.out.alloc B1.out.size _).trans (hb2.mono (by have := B1.out.size; simp; omega))); have K2 := Lib.hid ((K1.out.alloc _).grow hb2); have T2 := Lib.hid ((T1.out.alloc _).grow hb2); clear hb2)
      | (go_at_call 15; (with_reducible refine (G2.out _ _ _ K2.out T2.out).mono ?_); rintro e x3 ⟨rfl, hb2⟩
         obtain ⟨hc3, hf3⟩ := bcell hb2; have s3 : x1.heap.size < x3.heap.size := by have := hb2.size; omega
         have B3 := Lib.hid (B2.out.trans (hb2.mono B2.out.size)); have K3 := Lib.hid (K2.out.grow hb2); have T3 := Lib.hid (T2.out.grow hb2); clear hb2)
      | (go_at_call 15; (with_reducible refine (G3.out _ _ _ K3.out T3.out).mono ?_); rintro e x4 ⟨rfl, hb2⟩
         obtain ⟨hc4, hf4⟩ := bcell hb2; have s4 : x1.heap.size < x4.heap.size := by have := hb2.size; omega
         have B4 := Lib.hid (B3.out.trans (hb2.mono B3.out.size)); have K4 := Lib.hid (K3.out.grow hb2); have T4 := Lib.hid (T3.out.grow hb2); clear hb2)
      | (go_at_call 14; (with_reducible refine (works_true _ T4.out).mono ?_); rintro e x5 ⟨rfl, hb2⟩
         have B5 := Lib.hid (B4.out.trans (hb2.mono B4.out.size)); clear hb2))
    all_goals (go_ret; exact ⟨rfl, B5.out⟩)
  · subst he hf
    rw [if_neg (by decide), if_neg (by decide)] at hc
    have hc := hU _ _ _ _ hc
    have G1 : Hid (∀ A c W, KindAt W (n % 6) lo hi A c l week → Tabs W → Calls Tryz.prog 15 #[.agg #[.int .i64 lo, .int .i64 hi, .slice A l.length c, .bool week], .string s] W fun e w' => e = .returned (.tuple #[.int .u64 a, .bool star, .int .i64 x, .int .i64 2]) ∧ Below W.heap.size W w') :=
      Lib.hid fun A c W h hT => by have := kd_Parse h hT s hs3; rw [hp] at this; exact this
    have G2 : Hid (∀ A c W, KindAt W (n % 6) lo hi A c l week → Tabs W → Calls Tryz.prog 15 #[.agg #[.int .i64 lo, .int .i64 hi, .slice A l.length c, .bool week], .string t] W fun e w' => e = .returned (.tuple #[.int .u64 b, .bool is, .int .i64 y, .int .i64 0]) ∧ Below W.heap.size W w') :=
      Lib.hid fun A c W h hT => by have := kd_Parse h hT t ht3; rw [hq] at this; exact this
    have G3 : Hid (∀ A c W, KindAt W (n % 6) lo hi A c l week → Tabs W → Calls Tryz.prog 15 #[.agg #[.int .i64 lo, .int .i64 hi, .slice A l.length c, .bool week], .string (s ++ (⟨#[44]⟩ : ByteArray) ++ t)] W fun e w' => e = .returned (.tuple #[.int .u64 0, .bool false, .int .i64 x, .int .i64 2]) ∧ Below W.heap.size W w') :=
      Lib.hid fun A c W h hT => by have := kd_Parse h hT _ hus; rw [hc] at this; exact this
    generalize Fs.full (kind lo hi l week) = fu at *
    generalize hhi : hi = hi' at *
    clear hsix hT hk f1 f2 f3 f4 f5 f6 f7 f8 w0 w1 w2 hp hq hc hU hPs hPt
    go_enter Tryz.func8, Tryz.ntmps8
    go_wp2_with (first
      | (go_at_call 32; (with_reducible refine (H6.out _ HT.out).mono ?_); rintro e x1 ⟨A, c, rfl, hb1, hk1⟩
         have B1 := Lib.hid hb1; have K1 := Lib.hid hk1; have T1 := Lib.hid (HT.out.grow hb1); clear hb1 hk1)
      | (go_at_call 15; (with_reducible refine (G1.out _ _ _ (K1.out.alloc _) (T1.out.alloc _)).mono ?_); rintro e x2 ⟨rfl, hb2⟩
         obtain ⟨hc2, hf2⟩ := bcell hb2; have s2 : x1.heap.size < x2.heap.size := by have := hb2.size; simp at this; omega
         have B2 := Lib.hid ((B1.out.alloc B1.out.size _).trans (hb2.mono (by have := B1.out.size; simp; omega))); have K2 := Lib.hid ((K1.out.alloc _).grow hb2); have T2 := Lib.hid ((T1.out.alloc _).grow hb2); clear hb2)
      | (go_at_call 15; (with_reducible refine (G2.out _ _ _ K2.out T2.out).mono ?_); rintro e x3 ⟨rfl, hb2⟩
         obtain ⟨hc3, hf3⟩ := bcell hb2; have s3 : x1.heap.size < x3.heap.size := by have := hb2.size; omega
         have B3 := Lib.hid (B2.out.trans (hb2.mono B2.out.size)); have K3 := Lib.hid (K2.out.grow hb2); have T3 := Lib.hid (T2.out.grow hb2); clear hb2)
      | (go_at_call 15; (with_reducible refine (G3.out _ _ _ K3.out T3.out).mono ?_); rintro e x4 ⟨rfl, hb2⟩
         obtain ⟨hc4, hf4⟩ := bcell hb2; have s4 : x1.heap.size < x4.heap.size := by have := hb2.size; omega
         have B4 := Lib.hid (B3.out.trans (hb2.mono B3.out.size)); have K4 := Lib.hid (K3.out.grow hb2); have T4 := Lib.hid (T3.out.grow hb2); clear hb2)
      | (go_at_call 14; (with_reducible refine (works_true _ T4.out).mono ?_); rintro e x5 ⟨rfl, hb2⟩
         have B5 := Lib.hid (B4.out.trans (hb2.mono B4.out.size)); clear hb2))
    all_goals (go_ret; exact ⟨rfl, B5.out⟩)
  · subst he hf
    rw [if_neg (by decide), if_neg (by decide)] at hc
    have hc := hU _ _ _ _ hc
    have G1 : Hid (∀ A c W, KindAt W (n % 6) lo hi A c l week → Tabs W → Calls Tryz.prog 15 #[.agg #[.int .i64 lo, .int .i64 hi, .slice A l.length c, .bool week], .string s] W fun e w' => e = .returned (.tuple #[.int .u64 a, .bool star, .int .i64 x, .int .i64 2]) ∧ Below W.heap.size W w') :=
      Lib.hid fun A c W h hT => by have := kd_Parse h hT s hs3; rw [hp] at this; exact this
    have G2 : Hid (∀ A c W, KindAt W (n % 6) lo hi A c l week → Tabs W → Calls Tryz.prog 15 #[.agg #[.int .i64 lo, .int .i64 hi, .slice A l.length c, .bool week], .string t] W fun e w' => e = .returned (.tuple #[.int .u64 b, .bool is, .int .i64 y, .int .i64 2]) ∧ Below W.heap.size W w') :=
      Lib.hid fun A c W h hT => by have := kd_Parse h hT t ht3; rw [hq] at this; exact this
    have G3 : Hid (∀ A c W, KindAt W (n % 6) lo hi A c l week → Tabs W → Calls Tryz.prog 15 #[.agg #[.int .i64 lo, .int .i64 hi, .slice A l.length c, .bool week], .string (s ++ (⟨#[44]⟩ : ByteArray) ++ t)] W fun e w' => e = .returned (.tuple #[.int .u64 0, .bool false, .int .i64 x, .int .i64 2]) ∧ Below W.heap.size W w') :=
      Lib.hid fun A c W h hT => by have := kd_Parse h hT _ hus; rw [hc] at this; exact this
    generalize Fs.full (kind lo hi l week) = fu at *
    generalize hhi : hi = hi' at *
    clear hsix hT hk f1 f2 f3 f4 f5 f6 f7 f8 w0 w1 w2 hp hq hc hU hPs hPt
    go_enter Tryz.func8, Tryz.ntmps8
    go_wp2_with (first
      | (go_at_call 32; (with_reducible refine (H6.out _ HT.out).mono ?_); rintro e x1 ⟨A, c, rfl, hb1, hk1⟩
         have B1 := Lib.hid hb1; have K1 := Lib.hid hk1; have T1 := Lib.hid (HT.out.grow hb1); clear hb1 hk1)
      | (go_at_call 15; (with_reducible refine (G1.out _ _ _ (K1.out.alloc _) (T1.out.alloc _)).mono ?_); rintro e x2 ⟨rfl, hb2⟩
         obtain ⟨hc2, hf2⟩ := bcell hb2; have s2 : x1.heap.size < x2.heap.size := by have := hb2.size; simp at this; omega
         have B2 := Lib.hid ((B1.out.alloc B1.out.size _).trans (hb2.mono (by have := B1.out.size; simp; omega))); have K2 := Lib.hid ((K1.out.alloc _).grow hb2); have T2 := Lib.hid ((T1.out.alloc _).grow hb2); clear hb2)
      | (go_at_call 15; (with_reducible refine (G2.out _ _ _ K2.out T2.out).mono ?_); rintro e x3 ⟨rfl, hb2⟩
         obtain ⟨hc3, hf3⟩ := bcell hb2; have s3 : x1.heap.size < x3.heap.size := by have := hb2.size; omega
         have B3 := Lib.hid (B2.out.trans (hb2.mono B2.out.size)); have K3 := Lib.hid (K2.out.grow hb2); have T3 := Lib.hid (T2.out.grow hb2); clear hb2)
      | (go_at_call 15; (with_reducible refine (G3.out _ _ _ K3.out T3.out).mono ?_); rintro e x4 ⟨rfl, hb2⟩
         obtain ⟨hc4, hf4⟩ := bcell hb2; have s4 : x1.heap.size < x4.heap.size := by have := hb2.size; omega
         have B4 := Lib.hid (B3.out.trans (hb2.mono B3.out.size)); have K4 := Lib.hid (K3.out.grow hb2); have T4 := Lib.hid (T3.out.grow hb2); clear hb2)
      | (go_at_call 14; (with_reducible refine (works_true _ T4.out).mono ?_); rintro e x5 ⟨rfl, hb2⟩
         have B5 := Lib.hid (B4.out.trans (hb2.mono B4.out.size)); clear hb2))
    all_goals (go_ret; exact ⟨rfl, B5.out⟩)
  · subst he hf
    rw [if_neg (by decide), if_pos (by decide)] at hc
    have hc := hU _ _ _ _ hc
    have G1 : Hid (∀ A c W, KindAt W (n % 6) lo hi A c l week → Tabs W → Calls Tryz.prog 15 #[.agg #[.int .i64 lo, .int .i64 hi, .slice A l.length c, .bool week], .string s] W fun e w' => e = .returned (.tuple #[.int .u64 a, .bool star, .int .i64 x, .int .i64 2]) ∧ Below W.heap.size W w') :=
      Lib.hid fun A c W h hT => by have := kd_Parse h hT s hs3; rw [hp] at this; exact this
    have G2 : Hid (∀ A c W, KindAt W (n % 6) lo hi A c l week → Tabs W → Calls Tryz.prog 15 #[.agg #[.int .i64 lo, .int .i64 hi, .slice A l.length c, .bool week], .string t] W fun e w' => e = .returned (.tuple #[.int .u64 b, .bool is, .int .i64 y, .int .i64 10]) ∧ Below W.heap.size W w') :=
      Lib.hid fun A c W h hT => by have := kd_Parse h hT t ht3; rw [hq] at this; exact this
    have G3 : Hid (∀ A c W, KindAt W (n % 6) lo hi A c l week → Tabs W → Calls Tryz.prog 15 #[.agg #[.int .i64 lo, .int .i64 hi, .slice A l.length c, .bool week], .string (s ++ (⟨#[44]⟩ : ByteArray) ++ t)] W fun e w' => e = .returned (.tuple #[.int .u64 0, .bool false, .int .i64 ((y + (s.size + 1) : Nat) : Int), .int .i64 10]) ∧ Below W.heap.size W w') :=
      Lib.hid fun A c W h hT => by have := kd_Parse h hT _ hus; rw [hc] at this; exact this
    generalize Fs.full (kind lo hi l week) = fu at *
    generalize hhi : hi = hi' at *
    clear hsix hT hk f1 f2 f3 f4 f5 f6 f7 f8 w0 w1 w2 hp hq hc hU hPs hPt
    go_enter Tryz.func8, Tryz.ntmps8
    go_wp2_with (first
      | (go_at_call 32; (with_reducible refine (H6.out _ HT.out).mono ?_); rintro e x1 ⟨A, c, rfl, hb1, hk1⟩
         have B1 := Lib.hid hb1; have K1 := Lib.hid hk1; have T1 := Lib.hid (HT.out.grow hb1); clear hb1 hk1)
      | (go_at_call 15; (with_reducible refine (G1.out _ _ _ (K1.out.alloc _) (T1.out.alloc _)).mono ?_); rintro e x2 ⟨rfl, hb2⟩
         obtain ⟨hc2, hf2⟩ := bcell hb2; have s2 : x1.heap.size < x2.heap.size := by have := hb2.size; simp at this; omega
         have B2 := Lib.hid ((B1.out.alloc B1.out.size _).trans (hb2.mono (by have := B1.out.size; simp; omega))); have K2 := Lib.hid ((K1.out.alloc _).grow hb2); have T2 := Lib.hid ((T1.out.alloc _).grow hb2); clear hb2)
      | (go_at_call 15; (with_reducible refine (G2.out _ _ _ K2.out T2.out).mono ?_); rintro e x3 ⟨rfl, hb2⟩
         obtain ⟨hc3, hf3⟩ := bcell hb2; have s3 : x1.heap.size < x3.heap.size := by have := hb2.size; omega
         have B3 := Lib.hid (B2.out.trans (hb2.mono B2.out.size)); have K3 := Lib.hid (K2.out.grow hb2); have T3 := Lib.hid (T2.out.grow hb2); clear hb2)
      | (go_at_call 15; (with_reducible refine (G3.out _ _ _ K3.out T3.out).mono ?_); rintro e x4 ⟨rfl, hb2⟩
         obtain ⟨hc4, hf4⟩ := bcell hb2; have s4 : x1.heap.size < x4.heap.size := by have := hb2.size; omega
         have B4 := Lib.hid (B3.out.trans (hb2.mono B3.out.size)); have K4 := Lib.hid (K3.out.grow hb2); have T4 := Lib.hid (T3.out.grow hb2); clear hb2)
      | (go_at_call 14; (with_reducible refine (works_true _ T4.out).mono ?_); rintro e x5 ⟨rfl, hb2⟩
         have B5 := Lib.hid (B4.out.trans (hb2.mono B4.out.size)); clear hb2))
    all_goals (go_ret; exact ⟨rfl, B5.out⟩)
  · subst he hf
    rw [if_neg (by decide), if_neg (by decide)] at hc
    have hc := hU _ _ _ _ hc
    have G1 : Hid (∀ A c W, KindAt W (n % 6) lo hi A c l week → Tabs W → Calls Tryz.prog 15 #[.agg #[.int .i64 lo, .int .i64 hi, .slice A l.length c, .bool week], .string s] W fun e w' => e = .returned (.tuple #[.int .u64 a, .bool star, .int .i64 x, .int .i64 10]) ∧ Below W.heap.size W w') :=
      Lib.hid fun A c W h hT => by have := kd_Parse h hT s hs3; rw [hp] at this; exact this
    have G2 : Hid (∀ A c W, KindAt W (n % 6) lo hi A c l week → Tabs W → Calls Tryz.prog 15 #[.agg #[.int .i64 lo, .int .i64 hi, .slice A l.length c, .bool week], .string t] W fun e w' => e = .returned (.tuple #[.int .u64 b, .bool is, .int .i64 y, .int .i64 0]) ∧ Below W.heap.size W w') :=
      Lib.hid fun A c W h hT => by have := kd_Parse h hT t ht3; rw [hq] at this; exact this
    have G3 : Hid (∀ A c W, KindAt W (n % 6) lo hi A c l week → Tabs W → Calls Tryz.prog 15 #[.agg #[.int .i64 lo, .int .i64 hi, .slice A l.length c, .bool week], .string (s ++ (⟨#[44]⟩ : ByteArray) ++ t)] W fun e w' => e = .returned (.tuple #[.int .u64 0, .bool false, .int .i64 x, .int .i64 10]) ∧ Below W.heap.size W w') :=
      Lib.hid fun A c W h hT => by have := kd_Parse h hT _ hus; rw [hc] at this; exact this
    by_cases hxs : x = s.size
    · generalize Fs.full (kind lo hi l week) = fu at *
      generalize hhi : hi = hi' at *
      clear hsix hT hk f1 f2 f3 f4 f5 f6 f7 f8 w0 w1 w2 hp hq hc hU hPs hPt
      go_enter Tryz.func8, Tryz.ntmps8
      go_wp2_with (first
        | (go_at_call 32; (with_reducible refine (H6.out _ HT.out).mono ?_); rintro e x1 ⟨A, c, rfl, hb1, hk1⟩
           have B1 := Lib.hid hb1; have K1 := Lib.hid hk1; have T1 := Lib.hid (HT.out.grow hb1); clear hb1 hk1)
        | (go_at_call 15; (with_reducible refine (G1.out _ _ _ (K1.out.alloc _) (T1.out.alloc _)).mono ?_); rintro e x2 ⟨rfl, hb2⟩
           obtain ⟨hc2, hf2⟩ := bcell hb2; have s2 : x1.heap.size < x2.heap.size := by have := hb2.size; simp at this; omega
           have B2 := Lib.hid ((B1.out.alloc B1.out.size _).trans (hb2.mono (by have := B1.out.size; simp; omega))); have K2 := Lib.hid ((K1.out.alloc _).grow hb2); have T2 := Lib.hid ((T1.out.alloc _).grow hb2); clear hb2)
        | (go_at_call 15; (with_reducible refine (G2.out _ _ _ K2.out T2.out).mono ?_); rintro e x3 ⟨rfl, hb2⟩
           obtain ⟨hc3, hf3⟩ := bcell hb2; have s3 : x1.heap.size < x3.heap.size := by have := hb2.size; omega
           have B3 := Lib.hid (B2.out.trans (hb2.mono B2.out.size)); have K3 := Lib.hid (K2.out.grow hb2); have T3 := Lib.hid (T2.out.grow hb2); clear hb2)
        | (go_at_call 15; (with_reducible refine (G3.out _ _ _ K3.out T3.out).mono ?_); rintro e x4 ⟨rfl, hb2⟩
           obtain ⟨hc4, hf4⟩ := bcell hb2; have s4 : x1.heap.size < x4.heap.size := by have := hb2.size; omega
           have B4 := Lib.hid (B3.out.trans (hb2.mono B3.out.size)); have K4 := Lib.hid (K3.out.grow hb2); have T4 := Lib.hid (T3.out.grow hb2); clear hb2)
        | (go_at_call 14; (with_reducible refine (works_true _ T4.out).mono ?_); rintro e x5 ⟨rfl, hb2⟩
           have B5 := Lib.hid (B4.out.trans (hb2.mono B4.out.size)); clear hb2))
      all_goals (go_ret; exact ⟨rfl, B5.out⟩)
    · generalize Fs.full (kind lo hi l week) = fu at *
      generalize hhi : hi = hi' at *
      clear hsix hT hk f1 f2 f3 f4 f5 f6 f7 f8 w0 w1 w2 hp hq hc hU hPs hPt
      go_enter Tryz.func8, Tryz.ntmps8
      go_wp2_with (first
        | (go_at_call 32; (with_reducible refine (H6.out _ HT.out).mono ?_); rintro e x1 ⟨A, c, rfl, hb1, hk1⟩
           have B1 := Lib.hid hb1; have K1 := Lib.hid hk1; have T1 := Lib.hid (HT.out.grow hb1); clear hb1 hk1)
        | (go_at_call 15; (with_reducible refine (G1.out _ _ _ (K1.out.alloc _) (T1.out.alloc _)).mono ?_); rintro e x2 ⟨rfl, hb2⟩
           obtain ⟨hc2, hf2⟩ := bcell hb2; have s2 : x1.heap.size < x2.heap.size := by have := hb2.size; simp at this; omega
           have B2 := Lib.hid ((B1.out.alloc B1.out.size _).trans (hb2.mono (by have := B1.out.size; simp; omega))); have K2 := Lib.hid ((K1.out.alloc _).grow hb2); have T2 := Lib.hid ((T1.out.alloc _).grow hb2); clear hb2)
        | (go_at_call 15; (with_reducible refine (G2.out _ _ _ K2.out T2.out).mono ?_); rintro e x3 ⟨rfl, hb2⟩
           obtain ⟨hc3, hf3⟩ := bcell hb2; have s3 : x1.heap.size < x3.heap.size := by have := hb2.size; omega
           have B3 := Lib.hid (B2.out.trans (hb2.mono B2.out.size)); have K3 := Lib.hid (K2.out.grow hb2); have T3 := Lib.hid (T2.out.grow hb2); clear hb2)
        | (go_at_call 15; (with_reducible refine (G3.out _ _ _ K3.out T3.out).mono ?_); rintro e x4 ⟨rfl, hb2⟩
           obtain ⟨hc4, hf4⟩ := bcell hb2; have s4 : x1.heap.size < x4.heap.size := by have := hb2.size; omega
           have B4 := Lib.hid (B3.out.trans (hb2.mono B3.out.size)); have K4 := Lib.hid (K3.out.grow hb2); have T4 := Lib.hid (T3.out.grow hb2); clear hb2)
        | (go_at_call 14; (with_reducible refine (works_true _ T4.out).mono ?_); rintro e x5 ⟨rfl, hb2⟩
           have B5 := Lib.hid (B4.out.trans (hb2.mono B4.out.size)); clear hb2))
      all_goals (go_ret; exact ⟨rfl, B5.out⟩)
  · subst he hf
    rw [if_neg (by decide), if_neg (by decide)] at hc
    have hc := hU _ _ _ _ hc
    have G1 : Hid (∀ A c W, KindAt W (n % 6) lo hi A c l week → Tabs W → Calls Tryz.prog 15 #[.agg #[.int .i64 lo, .int .i64 hi, .slice A l.length c, .bool week], .string s] W fun e w' => e = .returned (.tuple #[.int .u64 a, .bool star, .int .i64 x, .int .i64 10]) ∧ Below W.heap.size W w') :=
      Lib.hid fun A c W h hT => by have := kd_Parse h hT s hs3; rw [hp] at this; exact this
    have G2 : Hid (∀ A c W, KindAt W (n % 6) lo hi A c l week → Tabs W → Calls Tryz.prog 15 #[.agg #[.int .i64 lo, .int .i64 hi, .slice A l.length c, .bool week], .string t] W fun e w' => e = .returned (.tuple #[.int .u64 b, .bool is, .int .i64 y, .int .i64 2]) ∧ Below W.heap.size W w') :=
      Lib.hid fun A c W h hT => by have := kd_Parse h hT t ht3; rw [hq] at this; exact this
    have G3 : Hid (∀ A c W, KindAt W (n % 6) lo hi A c l week → Tabs W → Calls Tryz.prog 15 #[.agg #[.int .i64 lo, .int .i64 hi, .slice A l.length c, .bool week], .string (s ++ (⟨#[44]⟩ : ByteArray) ++ t)] W fun e w' => e = .returned (.tuple #[.int .u64 0, .bool false, .int .i64 x, .int .i64 10]) ∧ Below W.heap.size W w') :=
      Lib.hid fun A c W h hT => by have := kd_Parse h hT _ hus; rw [hc] at this; exact this
    by_cases hxs : x = s.size
    · generalize Fs.full (kind lo hi l week) = fu at *
      generalize hhi : hi = hi' at *
      clear hsix hT hk f1 f2 f3 f4 f5 f6 f7 f8 w0 w1 w2 hp hq hc hU hPs hPt
      go_enter Tryz.func8, Tryz.ntmps8
      go_wp2_with (first
        | (go_at_call 32; (with_reducible refine (H6.out _ HT.out).mono ?_); rintro e x1 ⟨A, c, rfl, hb1, hk1⟩
           have B1 := Lib.hid hb1; have K1 := Lib.hid hk1; have T1 := Lib.hid (HT.out.grow hb1); clear hb1 hk1)
        | (go_at_call 15; (with_reducible refine (G1.out _ _ _ (K1.out.alloc _) (T1.out.alloc _)).mono ?_); rintro e x2 ⟨rfl, hb2⟩
           obtain ⟨hc2, hf2⟩ := bcell hb2; have s2 : x1.heap.size < x2.heap.size := by have := hb2.size; simp at this; omega
           have B2 := Lib.hid ((B1.out.alloc B1.out.size _).trans (hb2.mono (by have := B1.out.size; simp; omega))); have K2 := Lib.hid ((K1.out.alloc _).grow hb2); have T2 := Lib.hid ((T1.out.alloc _).grow hb2); clear hb2)
        | (go_at_call 15; (with_reducible refine (G2.out _ _ _ K2.out T2.out).mono ?_); rintro e x3 ⟨rfl, hb2⟩
           obtain ⟨hc3, hf3⟩ := bcell hb2; have s3 : x1.heap.size < x3.heap.size := by have := hb2.size; omega
           have B3 := Lib.hid (B2.out.trans (hb2.mono B2.out.size)); have K3 := Lib.hid (K2.out.grow hb2); have T3 := Lib.hid (T2.out.grow hb2); clear hb2)
        | (go_at_call 15; (with_reducible refine (G3.out _ _ _ K3.out T3.out).mono ?_); rintro e x4 ⟨rfl, hb2⟩
           obtain ⟨hc4, hf4⟩ := bcell hb2; have s4 : x1.heap.size < x4.heap.size := by have := hb2.size; omega
           have B4 := Lib.hid (B3.out.trans (hb2.mono B3.out.size)); have K4 := Lib.hid (K3.out.grow hb2); have T4 := Lib.hid (T3.out.grow hb2); clear hb2)
        | (go_at_call 14; (with_reducible refine (works_true _ T4.out).mono ?_); rintro e x5 ⟨rfl, hb2⟩
           have B5 := Lib.hid (B4.out.trans (hb2.mono B4.out.size)); clear hb2))
      all_goals (go_ret; exact ⟨rfl, B5.out⟩)
    · generalize Fs.full (kind lo hi l week) = fu at *
      generalize hhi : hi = hi' at *
      clear hsix hT hk f1 f2 f3 f4 f5 f6 f7 f8 w0 w1 w2 hp hq hc hU hPs hPt
      go_enter Tryz.func8, Tryz.ntmps8
      go_wp2_with (first
        | (go_at_call 32; (with_reducible refine (H6.out _ HT.out).mono ?_); rintro e x1 ⟨A, c, rfl, hb1, hk1⟩
           have B1 := Lib.hid hb1; have K1 := Lib.hid hk1; have T1 := Lib.hid (HT.out.grow hb1); clear hb1 hk1)
        | (go_at_call 15; (with_reducible refine (G1.out _ _ _ (K1.out.alloc _) (T1.out.alloc _)).mono ?_); rintro e x2 ⟨rfl, hb2⟩
           obtain ⟨hc2, hf2⟩ := bcell hb2; have s2 : x1.heap.size < x2.heap.size := by have := hb2.size; simp at this; omega
           have B2 := Lib.hid ((B1.out.alloc B1.out.size _).trans (hb2.mono (by have := B1.out.size; simp; omega))); have K2 := Lib.hid ((K1.out.alloc _).grow hb2); have T2 := Lib.hid ((T1.out.alloc _).grow hb2); clear hb2)
        | (go_at_call 15; (with_reducible refine (G2.out _ _ _ K2.out T2.out).mono ?_); rintro e x3 ⟨rfl, hb2⟩
           obtain ⟨hc3, hf3⟩ := bcell hb2; have s3 : x1.heap.size < x3.heap.size := by have := hb2.size; omega
           have B3 := Lib.hid (B2.out.trans (hb2.mono B2.out.size)); have K3 := Lib.hid (K2.out.grow hb2); have T3 := Lib.hid (T2.out.grow hb2); clear hb2)
        | (go_at_call 15; (with_reducible refine (G3.out _ _ _ K3.out T3.out).mono ?_); rintro e x4 ⟨rfl, hb2⟩
           obtain ⟨hc4, hf4⟩ := bcell hb2; have s4 : x1.heap.size < x4.heap.size := by have := hb2.size; omega
           have B4 := Lib.hid (B3.out.trans (hb2.mono B3.out.size)); have K4 := Lib.hid (K3.out.grow hb2); have T4 := Lib.hid (T3.out.grow hb2); clear hb2)
        | (go_at_call 14; (with_reducible refine (works_true _ T4.out).mono ?_); rintro e x5 ⟨rfl, hb2⟩
           have B5 := Lib.hid (B4.out.trans (hb2.mono B4.out.size)); clear hb2))
      all_goals (go_ret; exact ⟨rfl, B5.out⟩)
  · subst he hf
    rw [if_neg (by decide), if_neg (by decide)] at hc
    have hc := hU _ _ _ _ hc
    have G1 : Hid (∀ A c W, KindAt W (n % 6) lo hi A c l week → Tabs W → Calls Tryz.prog 15 #[.agg #[.int .i64 lo, .int .i64 hi, .slice A l.length c, .bool week], .string s] W fun e w' => e = .returned (.tuple #[.int .u64 a, .bool star, .int .i64 x, .int .i64 10]) ∧ Below W.heap.size W w') :=
      Lib.hid fun A c W h hT => by have := kd_Parse h hT s hs3; rw [hp] at this; exact this
    have G2 : Hid (∀ A c W, KindAt W (n % 6) lo hi A c l week → Tabs W → Calls Tryz.prog 15 #[.agg #[.int .i64 lo, .int .i64 hi, .slice A l.length c, .bool week], .string t] W fun e w' => e = .returned (.tuple #[.int .u64 b, .bool is, .int .i64 y, .int .i64 10]) ∧ Below W.heap.size W w') :=
      Lib.hid fun A c W h hT => by have := kd_Parse h hT t ht3; rw [hq] at this; exact this
    have G3 : Hid (∀ A c W, KindAt W (n % 6) lo hi A c l week → Tabs W → Calls Tryz.prog 15 #[.agg #[.int .i64 lo, .int .i64 hi, .slice A l.length c, .bool week], .string (s ++ (⟨#[44]⟩ : ByteArray) ++ t)] W fun e w' => e = .returned (.tuple #[.int .u64 0, .bool false, .int .i64 x, .int .i64 10]) ∧ Below W.heap.size W w') :=
      Lib.hid fun A c W h hT => by have := kd_Parse h hT _ hus; rw [hc] at this; exact this
    by_cases hxs : x = s.size
    · generalize Fs.full (kind lo hi l week) = fu at *
      generalize hhi : hi = hi' at *
      clear hsix hT hk f1 f2 f3 f4 f5 f6 f7 f8 w0 w1 w2 hp hq hc hU hPs hPt
      go_enter Tryz.func8, Tryz.ntmps8
      go_wp2_with (first
        | (go_at_call 32; (with_reducible refine (H6.out _ HT.out).mono ?_); rintro e x1 ⟨A, c, rfl, hb1, hk1⟩
           have B1 := Lib.hid hb1; have K1 := Lib.hid hk1; have T1 := Lib.hid (HT.out.grow hb1); clear hb1 hk1)
        | (go_at_call 15; (with_reducible refine (G1.out _ _ _ (K1.out.alloc _) (T1.out.alloc _)).mono ?_); rintro e x2 ⟨rfl, hb2⟩
           obtain ⟨hc2, hf2⟩ := bcell hb2; have s2 : x1.heap.size < x2.heap.size := by have := hb2.size; simp at this; omega
           have B2 := Lib.hid ((B1.out.alloc B1.out.size _).trans (hb2.mono (by have := B1.out.size; simp; omega))); have K2 := Lib.hid ((K1.out.alloc _).grow hb2); have T2 := Lib.hid ((T1.out.alloc _).grow hb2); clear hb2)
        | (go_at_call 15; (with_reducible refine (G2.out _ _ _ K2.out T2.out).mono ?_); rintro e x3 ⟨rfl, hb2⟩
           obtain ⟨hc3, hf3⟩ := bcell hb2; have s3 : x1.heap.size < x3.heap.size := by have := hb2.size; omega
           have B3 := Lib.hid (B2.out.trans (hb2.mono B2.out.size)); have K3 := Lib.hid (K2.out.grow hb2); have T3 := Lib.hid (T2.out.grow hb2); clear hb2)
        | (go_at_call 15; (with_reducible refine (G3.out _ _ _ K3.out T3.out).mono ?_); rintro e x4 ⟨rfl, hb2⟩
           obtain ⟨hc4, hf4⟩ := bcell hb2; have s4 : x1.heap.size < x4.heap.size := by have := hb2.size; omega
           have B4 := Lib.hid (B3.out.trans (hb2.mono B3.out.size)); have K4 := Lib.hid (K3.out.grow hb2); have T4 := Lib.hid (T3.out.grow hb2); clear hb2)
        | (go_at_call 14; (with_reducible refine (works_true _ T4.out).mono ?_); rintro e x5 ⟨rfl, hb2⟩
           have B5 := Lib.hid (B4.out.trans (hb2.mono B4.out.size)); clear hb2))
      all_goals (go_ret; exact ⟨rfl, B5.out⟩)
    · generalize Fs.full (kind lo hi l week) = fu at *
      generalize hhi : hi = hi' at *
      clear hsix hT hk f1 f2 f3 f4 f5 f6 f7 f8 w0 w1 w2 hp hq hc hU hPs hPt
      go_enter Tryz.func8, Tryz.ntmps8
      go_wp2_with (first
        | (go_at_call 32; (with_reducible refine (H6.out _ HT.out).mono ?_); rintro e x1 ⟨A, c, rfl, hb1, hk1⟩
           have B1 := Lib.hid hb1; have K1 := Lib.hid hk1; have T1 := Lib.hid (HT.out.grow hb1); clear hb1 hk1)
        | (go_at_call 15; (with_reducible refine (G1.out _ _ _ (K1.out.alloc _) (T1.out.alloc _)).mono ?_); rintro e x2 ⟨rfl, hb2⟩
           obtain ⟨hc2, hf2⟩ := bcell hb2; have s2 : x1.heap.size < x2.heap.size := by have := hb2.size; simp at this; omega
           have B2 := Lib.hid ((B1.out.alloc B1.out.size _).trans (hb2.mono (by have := B1.out.size; simp; omega))); have K2 := Lib.hid ((K1.out.alloc _).grow hb2); have T2 := Lib.hid ((T1.out.alloc _).grow hb2); clear hb2)
        | (go_at_call 15; (with_reducible refine (G2.out _ _ _ K2.out T2.out).mono ?_); rintro e x3 ⟨rfl, hb2⟩
           obtain ⟨hc3, hf3⟩ := bcell hb2; have s3 : x1.heap.size < x3.heap.size := by have := hb2.size; omega
           have B3 := Lib.hid (B2.out.trans (hb2.mono B2.out.size)); have K3 := Lib.hid (K2.out.grow hb2); have T3 := Lib.hid (T2.out.grow hb2); clear hb2)
        | (go_at_call 15; (with_reducible refine (G3.out _ _ _ K3.out T3.out).mono ?_); rintro e x4 ⟨rfl, hb2⟩
           obtain ⟨hc4, hf4⟩ := bcell hb2; have s4 : x1.heap.size < x4.heap.size := by have := hb2.size; omega
           have B4 := Lib.hid (B3.out.trans (hb2.mono B3.out.size)); have K4 := Lib.hid (K3.out.grow hb2); have T4 := Lib.hid (T3.out.grow hb2); clear hb2)
        | (go_at_call 14; (with_reducible refine (works_true _ T4.out).mono ?_); rintro e x5 ⟨rfl, hb2⟩
           have B5 := Lib.hid (B4.out.trans (hb2.mono B4.out.size)); clear hb2))
      all_goals (go_ret; exact ⟨rfl, B5.out⟩)

set_option maxRecDepth 100000 in
theorem contract (H : Type) (enc : TypeId × Value → H) (W : World) (base : Nat) (args : Array Value) (ds gs : List (DataW H)) (before : List MemPlace)
    (hval : ∀ (j : Nat) t v, Tryz.f8.params[j]? = some t → args[j]? = some v → Value.okWide Tryz.prog W .any base t v)
    (hW : DataW.Whole enc Tryz.prog Tryz.f8.params.toList Rows.fieldListsSpec.vars false W args.toList ds gs before) (hL : laidMetH Tryz.prog Rows.fieldListsRow.laid W) (hS : W.ShapedOpen Tryz.prog) :
    Calls Tryz.prog 8 args W fun e W' => ∃ v, e = .returned v ∧ Rows.fieldListsSpec.post enc Tryz.prog Tryz.f8 false true false false W args v W' := by
  have hT : Tabs W := FRow.tabs_of hL hS
  have hW' := hW
  obtain ⟨p, q, hA0, hV, rfl, hfz, hnd⟩ := hW
  have hA : DataW.TrodAll enc Tryz.prog W 0 (fun _ => true) true Tryz.f8.params.toList args.toList ds p := hA0
  rw [Tryz.params8] at hA hval
  obtain ⟨v0, vs0, d0, ds0, p0, q0, hargs, rfl, rfl, h0, r0⟩ := trodAll_cons hA
  obtain ⟨v1, vs1, d1, ds1, p1, q1, rfl, rfl, rfl, h1, r1⟩ := trodAll_cons r0
  obtain ⟨v2, vs2, d2, ds2, p2, q2, rfl, rfl, rfl, h2, r2⟩ := trodAll_cons r1
  obtain ⟨rfl, rfl, rfl⟩ := trodAll_nil r2
  obtain rfl : args = #[v0, v1, v2] := by cases args; simp_all
  obtain ⟨rfl, rfl⟩ := trodVars_none hV
  obtain ⟨a0, rfl, rfl, rfl, w0⟩ := open_int Tryz.underlying5 (hval 0 5 v0 rfl rfl) h0
  obtain ⟨a1, rfl, rfl, rfl, w1⟩ := Go.ChangeMaps.open_string Tryz.underlying9 (hval 1 9 v1 rfl rfl) h1
  obtain ⟨a2, rfl, rfl, rfl, w2⟩ := Go.ChangeMaps.open_string Tryz.underlying9 (hval 2 9 v2 rfl rfl) h2
  clear hA0
  simp only [List.append_nil] at hW'
  refine (walk a0 a1 a2 w0 w1 w2 W hT ).mono fun e W' ⟨he, hb⟩ => ?_
  subst he
  exact ⟨_, rfl, _, _, _, [], [], [], hW', trodAll_cons_mk (shut_bool Tryz.underlying4 _) trodAll_mk0, (trodAll_cons_mk (shut_int Tryz.underlying5 w0) (trodAll_cons_mk (Go.ChangeMaps.shut_string Tryz.underlying9 w1) (trodAll_cons_mk (Go.ChangeMaps.shut_string Tryz.underlying9 w2) trodAll_mk0))), rfl, hb.frame _, fun h => by cases h⟩

set_option maxRecDepth 100000 in
theorem lifted (os : Os) (started : os.Started) (H : Type) (enc : TypeId × Value → H) (F : Stop.Interp) :
    ReturnsInHanded {} Tryz.checked os 8 .any ((OpenSpec.ofChange Rows.fieldListsSpec).preRow enc Tryz.prog Tryz.f8 Rows.fieldListsRow.domain false Rows.fieldListsRow.laid) (((OpenSpec.ofChange Rows.fieldListsSpec).at F).post enc Tryz.prog Tryz.f8 false true false false) := by
  refine returnsInHanded_of_row (C := Tryz.checked) (s := OpenSpec.ofChange Rows.fieldListsSpec) FRow.own started (by kernel_rfl) Tryz.func8
    (ChangeSpec.witness_shaped (enc := enc) (C := Tryz.checked) (os := os) (X := fun w _ => laidMetH Tryz.prog FRow.laidL w) false (World.laidAll Tryz.prog os FRow.laidL) #[.int .u8 0, .string ByteArray.empty, .string ByteArray.empty] 8 (World.laidAll_os _ _ _)
      (FRow.wit_shaped os _) (by kernel_rfl) (by kernel_rfl) (by kernel_rfl) (FRow.wit_laid os _)) ?_
  intro W base args ds gs before hval hW _ _ _ hL hS _
  exact contract H enc W base args ds gs before hval hW hL hS

theorem said : Rows.FieldListsSaid :=
  OpenClaim.holds_of_cond 8 Tryz.f8 rfl rfl rfl rfl rfl rfl rfl ⟨rfl, rfl, rfl, rfl, rfl⟩ rfl rfl rfl rfl rfl (by kernel_rfl) Tryz.func8 (by kernel_rfl)
    (of_decide_eq_true (by kernel_rfl)) (by unfold Func.isWrapper; first | (rw [if_pos (by decide +kernel)]; kernel_rfl) | (rw [if_neg (by decide +kernel)]; exact ⟨rfl, rfl⟩))
    (fun os started H enc _ F => by rw [OpenClaim.pre_eq_preRow]; exact lifted os started H enc F)

theorem plain (f : FuncId) (fn : Func) (hf : Tryz.pinned.checked.prog.funcNamed "wakeman/wakemanlaw06.FieldLists" = some f) (hfn : Tryz.pinned.checked.prog.funcs[f]? = some fn) :
    true = Tryz.pinned.checked.prog.looks [] ∧ ∀ (j : Nat) t, fn.params[j]? = some t → Tryz.pinned.checked.prog.wantsStandIn t = false := by
  obtain rfl : f = 8 := Option.some.inj ((show Tryz.prog.funcNamed "wakeman/wakemanlaw06.FieldLists" = some 8 by kernel_rfl).symm.trans hf) |>.symm
  obtain rfl : fn = Tryz.f8 := (Option.some.inj (Tryz.func8.symm.trans hfn)).symm
  refine ⟨by kernel_rfl, fun j t ht => ?_⟩
  rw [Tryz.params8] at ht
  have hm : t ∈ [5, 9, 9] := by simpa using Array.mem_of_getElem? ht
  have hall : ([5, 9, 9].all fun u => !Tryz.prog.wantsStandIn u) = true := by kernel_rfl
  exact (show Tryz.prog.wantsStandIn t = false by simpa using List.all_eq_true.1 hall t hm)

theorem card : Rows.FieldListsCardSaid :=
  Claim7.holds_tied_plain_at .later [] _ _ _ _ said (fun _ h => by cases h) (by kernel_rfl) (fun _ h => by cases h) fieldLists_row_tie rfl ⟨rfl, rfl⟩ (by kernel_rfl) rfl plain (by kernel_rfl)
#print axioms card
end Go.Proofs.YtfhcnndleaoobaaGreatDoor.fieldLists
