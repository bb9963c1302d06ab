/-
  The program's reader: the states slash and begin.
  The program's reader: the state begin.
-/
import Derived.Test.YtjnlgaeedcklaaaGreatDoorFRd4
set_option linter.unusedVariables false
set_option linter.unusedSimpArgs false
namespace Go.Proofs.YtjnlgaeedcklaaaGreatDoor
open Go.RowKit

abbrev fnSlash : Value := .func (.func 101) #[] #[]
abbrev fnComma : Value := .func (.func 137) #[] #[]
abbrev fnBegin : Value := .func (.func 64) #[] #[]

theorem st_slash_no (g : Nat) (w : World) (lo hi : Int) (nm : Value) (week : Bool) (s : ByteArray) (k : Nat) (x0 x1 x2 x3 x4 x5 x6 x7 x8 x9 : Value) (ls b th : Value) (hs : s.size ≤ 100000) (hk : k ≤ s.size)
    (hq : Fs.byteAt s.data.toList k 47 = false)
    (hB : Blk w g 124 #[.int .i64 lo, .int .i64 hi, nm, .bool week, .string s, .int .i64 k, x0, x1, x2, x3, x4, x5, x6, x7, x8, x9, ls, b, th]) :
    Calls Tryz.prog 101 #[.pointer (some ⟨g, 0, none⟩)] w fun e w' =>
      e = .returned fnComma ∧ Kg g w w' ∧ Blk w' g 124 #[.int .i64 lo, .int .i64 hi, nm, .bool week, .string s, .int .i64 k, x0, x1, x2, x3, x4, x5, x6, x7, x8, x9, ls, b, th] := by
  have HB := Lib.hid hB
  have Hq := Lib.hid hq
  clear hB hq
  go_enter Tryz.func101, Tryz.ntmps101
  go_wp2_with (go_at_call 100; refine (rd_next_no g 47 _ lo hi nm week s k _ _ _ _ _ _ _ _ _ _ _ _ _ hs hk Hq.out HB.out).mono ?_; rintro e w1 ⟨rfl, hk1, hB1⟩)
  go_ret
  exact ⟨rfl, hk1, hB1⟩

theorem st_slash_bad (g : Nat) (w : World) (lo hi : Int) (nm : Value) (week : Bool) (s : ByteArray) (k : Nat) (x0 x1 x2 x3 x4 x5 x6 x7 x8 x9 : Value) (ls b th : Value) (hs : s.size ≤ 100000) (hk : k < s.size)
    (hq : Fs.byteAt s.data.toList k 47 = true) (hn : Fs.span Fs.digitB 2 (s.data.toList.drop (k + 1)) = 0) (hT : Tabs w)
    (hB : Blk w g 124 #[.int .i64 lo, .int .i64 hi, nm, .bool week, .string s, .int .i64 k, x0, x1, x2, x3, x4, x5, x6, x7, x8, x9, ls, b, th]) (hg : 12 ≤ g) :
    Calls Tryz.prog 101 #[.pointer (some ⟨g, 0, none⟩)] w fun e w' =>
      e = .returned .nilFunc ∧ Kg g w w' ∧ ∃ x7 x8 x9, Blk w' g 124 #[.int .i64 lo, .int .i64 hi, nm, .bool week, .string s, .int .i64 (k + 1 : Nat), x0, x1, x2, x3, x4, x5, x6, x7, x8, x9, ls, .bool true, th] := by
  have HB := Lib.hid hB
  have Hq := Lib.hid hq
  have Hn := Lib.hid hn
  have HT := Lib.hid hT
  clear hB hq hn hT
  go_enter Tryz.func101, Tryz.ntmps101
  go_wp2_with (first
    | (go_at_call 100; refine (rd_next_yes g 47 _ lo hi nm week s k _ _ _ _ _ _ _ _ _ _ _ _ _ hs (by omega) Hq.out HB.out).mono ?_; rintro e w1 ⟨rfl, hk1, hB1⟩; have HB1 := Lib.hid hB1; clear hB1)
    | (go_at_call 138; refine (rd_number g _ lo hi nm week s (k + 1) 0 _ _ _ _ _ _ _ _ _ _ _ _ _ hs (by omega) Hn.out (HT.out.kp hk1 (fun i h => by omega)) HB1.out).mono ?_; rintro e w2 ⟨rfl, hk2, hB2⟩; have HB2 := Lib.hid hB2; clear hB2; obtain ⟨hc, hf⟩ := HB2.out.facts)
    | (go_at_call 103; refine (rd_fail g _ lo hi nm week s (k + 1) _ _ _ _ _ _ _ _ _ _ _ _ _ _ (((HB2.out.set_ 13 _).set_ 14 _).set_ 15 _)).mono ?_; rintro e w3 ⟨rfl, hk3, hB3⟩))
  go_ret
  exact ⟨rfl, (Kg.set_ (Kg.set_ (Kg.set_ (hk1.trans hk2) _ _) _ _) _ _).trans hk3, _, _, _, hB3⟩

theorem st_slash_yes (g : Nat) (w : World) (lo hi : Int) (nm : Value) (week : Bool) (s : ByteArray) (k n : Nat) (x0 x1 x2 x3 x4 x5 x6 x7 x8 x9 : Value) (ls b th : Value) (hs : s.size ≤ 100000) (hk : k < s.size)
    (hq : Fs.byteAt s.data.toList k 47 = true) (hn : Fs.span Fs.digitB 2 (s.data.toList.drop (k + 1)) = n) (hn0 : 0 < n) (hT : Tabs w)
    (hB : Blk w g 124 #[.int .i64 lo, .int .i64 hi, nm, .bool week, .string s, .int .i64 k, x0, x1, x2, x3, x4, x5, x6, x7, x8, x9, ls, b, th]) (hg : 12 ≤ g) :
    Calls Tryz.prog 101 #[.pointer (some ⟨g, 0, none⟩)] w fun e w' =>
      e = .returned fnComma ∧ Kg g w w' ∧ Blk w' g 124 #[.int .i64 lo, .int .i64 hi, nm, .bool week, .string s, .int .i64 (k + 1 + n : Nat), x0, x1, x2, x3, x4, x5, x6, .int .i64 (Fs.numOf ((s.data.toList.drop (k + 1)).take n)), .int .i64 (k + 1 : Nat), .bool true, ls, b, th] := by
  have HB := Lib.hid hB
  have Hq := Lib.hid hq
  have Hn := Lib.hid hn
  have HT := Lib.hid hT
  clear hB hq hn hT
  generalize hv : (Fs.numOf ((s.data.toList.drop (k + 1)).take n) : Int) = v
  have Hv := Lib.hid hv; clear hv
  have hd : decide (0 < n) = true := by simpa using hn0
  go_enter Tryz.func101, Tryz.ntmps101
  go_wp2_with (first
    | (go_at_call 100; refine (rd_next_yes g 47 _ lo hi nm week s k _ _ _ _ _ _ _ _ _ _ _ _ _ hs (by omega) Hq.out HB.out).mono ?_; rintro e w1 ⟨rfl, hk1, hB1⟩; have HB1 := Lib.hid hB1; clear hB1)
    | (go_at_call 138; refine (rd_number g _ lo hi nm week s (k + 1) n _ _ _ _ _ _ _ _ _ _ _ _ _ hs (by omega) Hn.out (HT.out.kp hk1 (fun i h => by omega)) HB1.out).mono ?_; rw [Hv.out, hd]; rintro e w2 ⟨rfl, hk2, hB2⟩; have HB2 := Lib.hid hB2; clear hB2; obtain ⟨hc, hf⟩ := HB2.out.facts))
  go_ret
  exact ⟨rfl, Kg.set_ (Kg.set_ (Kg.set_ (hk1.trans hk2) _ _) _ _) _ _, ((HB2.out.set_ 13 _).set_ 14 _).set_ 15 _⟩

theorem numAt_split (l : List UInt8) (k : Nat) : Fs.numAt l k = if Fs.span Fs.digitB 2 (l.drop k) = 0 then none else some (Fs.numOf ((l.drop k).take (Fs.span Fs.digitB 2 (l.drop k))), k + Fs.span Fs.digitB 2 (l.drop k)) := rfl

/-- value, where there is one. -/
theorem rd_valAt_some (g : Nat) (w : World) (lo hi : Int) (A : Option Addr) (c : Nat) (l : List ByteArray) (week : Bool) (s : ByteArray) (k : Nat) (v e0 : Nat) (x0 x1 x2 x3 x4 x5 x6 x7 x8 x9 : Value) (ls b th : Value) (hs : s.size ≤ 100000) (hk : k ≤ s.size)
    (hlo : 0 ≤ lo) (hlo2 : lo ≤ 62) (hnl : l.length ≤ 1000) (hA : Names w g A l) (hT : Tabs w) (hg : 12 ≤ g)
    (hv : Fs.valAt (kind lo hi l week) s.data.toList k = some (v, e0))
    (hB : Blk w g 124 #[.int .i64 lo, .int .i64 hi, .slice A l.length c, .bool week, .string s, .int .i64 k, x0, x1, x2, x3, x4, x5, x6, x7, x8, x9, ls, b, th]) :
    Calls Tryz.prog 102 #[.pointer (some ⟨g, 0, none⟩)] w fun e w' =>
      e = .returned (.tuple #[.agg #[.int .i64 v, .int .i64 k, .bool true], .bool true]) ∧ Kg g w w' ∧ Blk w' g 124 #[.int .i64 lo, .int .i64 hi, .slice A l.length c, .bool week, .string s, .int .i64 e0, x0, x1, x2, x3, x4, x5, x6, x7, x8, x9, ls, b, th] := by
  unfold Fs.valAt at hv
  rw [← Lib.size_eq] at hv
  simp only at hv
  by_cases h0 : Fs.span Fs.letterB s.size (s.data.toList.drop k) = 0
  · rw [if_pos h0, numAt_split] at hv
    by_cases h1 : Fs.span Fs.digitB 2 (s.data.toList.drop k) = 0
    · rw [if_pos h1] at hv; cases hv
    · rw [if_neg h1] at hv
      simp only [Option.some.injEq, Prod.mk.injEq] at hv
      refine (rd_value_num g w lo hi _ week s k _ _ _ _ _ _ _ _ _ _ _ _ _ _ hs hk h0 rfl hT hB).mono ?_
      rintro e w' ⟨rfl, h2, h3⟩
      rw [← hv.1, ← hv.2]
      exact ⟨by rw [decide_eq_true (by omega)], h2, h3⟩
  · rw [if_neg h0, Option.map_eq_some_iff] at hv
    obtain ⟨i, hi', hv⟩ := hv
    simp only [Prod.mk.injEq] at hv
    refine (rd_value_name g w lo hi A c l week s k _ i _ _ _ _ _ _ _ _ _ _ _ _ _ hs hk hlo hlo2 hnl hA rfl (by omega) hT hi' hB).mono ?_
    rintro e w' ⟨rfl, h2, h3⟩
    rw [← hv.2, ← hv.1]
    refine ⟨?_, h2, h3⟩
    have : (((kind lo hi l week).lo.toNat + i : Nat) : Int) = lo + i := by simp only [kind]; omega
    rw [this]

theorem rd_valAt_none (g : Nat) (w : World) (lo hi : Int) (A : Option Addr) (c : Nat) (l : List ByteArray) (week : Bool) (s : ByteArray) (k : Nat) (x0 x1 x2 x3 x4 x5 x6 x7 x8 x9 : Value) (ls b th : Value) (hs : s.size ≤ 100000) (hk : k ≤ s.size)
    (hlo : 0 ≤ lo) (hlo2 : lo ≤ 62) (hnl : l.length ≤ 1000) (hA : Names w g A l) (hT : Tabs w) (hg : 12 ≤ g)
    (hv : Fs.valAt (kind lo hi l week) s.data.toList k = none)
    (hB : Blk w g 124 #[.int .i64 lo, .int .i64 hi, .slice A l.length c, .bool week, .string s, .int .i64 k, x0, x1, x2, x3, x4, x5, x6, x7, x8, x9, ls, b, th]) :
    Calls Tryz.prog 102 #[.pointer (some ⟨g, 0, none⟩)] w fun e w' => ∃ n a t,
      e = .returned (.tuple #[.agg #[.int .i64 n, .int .i64 a, .bool t], .bool false]) ∧ Kg g w w' ∧ Blk w' g 124 #[.int .i64 lo, .int .i64 hi, .slice A l.length c, .bool week, .string s, .int .i64 k, x0, x1, x2, x3, x4, x5, x6, x7, x8, x9, ls, b, th] := by
  unfold Fs.valAt at hv
  rw [← Lib.size_eq] at hv
  simp only at hv
  by_cases h0 : Fs.span Fs.letterB s.size (s.data.toList.drop k) = 0
  · rw [if_pos h0, numAt_split] at hv
    by_cases h1 : Fs.span Fs.digitB 2 (s.data.toList.drop k) = 0
    · refine (rd_value_num g w lo hi _ week s k 0 _ _ _ _ _ _ _ _ _ _ _ _ _ hs hk h0 h1 hT hB).mono ?_
      rintro e w' ⟨rfl, h2, h3⟩
      exact ⟨_, _, _, rfl, h2, h3⟩
    · rw [if_neg h1] at hv; cases hv
  · rw [if_neg h0, Option.map_eq_none_iff] at hv
    refine (rd_value_bad g w lo hi A c l week s k _ _ _ _ _ _ _ _ _ _ _ _ _ _ hs hk hlo hlo2 hnl hA rfl (by omega) hT hv hB).mono ?_
    rintro e w' ⟨rfl, h2, h3⟩
    exact ⟨_, _, _, rfl, h2, h3⟩

end Go.Proofs.YtjnlgaeedcklaaaGreatDoor

namespace Go.Proofs.YtjnlgaeedcklaaaGreatDoor
open Go.RowKit

theorem Names.kp {w w' : World} {g : Nat} {A : Option Addr} {l : List ByteArray} {S : Nat → Prop} (h : Names w g A l) (k : Kp S w w') (hg : g ≤ w.heap.size) (hS : ∀ i, S i → g ≤ i) : Names w' g A l := by
  rcases h with h | ⟨b, off, rfl, hlt, hc⟩
  · exact .inl h
  · refine .inr ⟨b, off, rfl, hlt, fun j hj => ?_⟩
    rw [World.cell?_of_block (a := ⟨b, off + j, none⟩) (k.block b (by omega) (fun hs => by have := hS b hs; omega))]
    exact hc j hj

theorem Blk.now10 {w : World} {g : Nat} {t : TypeId} {a0 a1 a2 a3 a4 a5 x0 x1 x2 x3 x4 x5 x6 x7 x8 x9 c0 c1 c2 : Value} (h : Blk w g t #[a0, a1, a2, a3, a4, a5, x0, x1, x2, x3, x4, x5, x6, x7, x8, x9, c0, c1, c2]) (y0 y1 y2 y3 y4 y5 y6 y7 y8 y9 : Value) : Blk ((((((((((w.setCell ⟨g, 6, none⟩ y0).setCell ⟨g, 7, none⟩ y1).setCell ⟨g, 8, none⟩ y2).setCell ⟨g, 9, none⟩ y3).setCell ⟨g, 10, none⟩ y4).setCell ⟨g, 11, none⟩ y5).setCell ⟨g, 12, none⟩ y6).setCell ⟨g, 13, none⟩ y7).setCell ⟨g, 14, none⟩ y8).setCell ⟨g, 15, none⟩ y9) g t #[a0, a1, a2, a3, a4, a5, y0, y1, y2, y3, y4, y5, y6, y7, y8, y9, c0, c1, c2] := by
  have h' := ((((((((((h.set_ 6 y0).set_ 7 y1).set_ 8 y2).set_ 9 y3).set_ 10 y4).set_ 11 y5).set_ 12 y6).set_ 13 y7).set_ 14 y8).set_ 15 y9)
  simpa using h'
theorem Kg.now10 {w0 w : World} {g : Nat} (k : Kg g w0 w) (y0 y1 y2 y3 y4 y5 y6 y7 y8 y9 : Value) : Kg g w0 ((((((((((w.setCell ⟨g, 6, none⟩ y0).setCell ⟨g, 7, none⟩ y1).setCell ⟨g, 8, none⟩ y2).setCell ⟨g, 9, none⟩ y3).setCell ⟨g, 10, none⟩ y4).setCell ⟨g, 11, none⟩ y5).setCell ⟨g, 12, none⟩ y6).setCell ⟨g, 13, none⟩ y7).setCell ⟨g, 14, none⟩ y8).setCell ⟨g, 15, none⟩ y9) := (Kg.set_ (Kg.set_ (Kg.set_ (Kg.set_ (Kg.set_ (Kg.set_ (Kg.set_ (Kg.set_ (Kg.set_ (Kg.set_ k 6 y0) 7 y1) 8 y2) 9 y3) 10 y4) 11 y5) 12 y6) 13 y7) 14 y8) 15 y9)
theorem Blk.lo3 {w : World} {g : Nat} {t : TypeId} {a0 a1 a2 a3 a4 a5 x0 x1 x2 x3 x4 x5 x6 x7 x8 x9 c0 c1 c2 : Value} (h : Blk w g t #[a0, a1, a2, a3, a4, a5, x0, x1, x2, x3, x4, x5, x6, x7, x8, x9, c0, c1, c2]) (y0 y1 y2 : Value) : Blk (((w.setCell ⟨g, 7, none⟩ y0).setCell ⟨g, 8, none⟩ y1).setCell ⟨g, 9, none⟩ y2) g t #[a0, a1, a2, a3, a4, a5, x0, y0, y1, y2, x4, x5, x6, x7, x8, x9, c0, c1, c2] := by
  have h' := (((h.set_ 7 y0).set_ 8 y1).set_ 9 y2)
  simpa using h'
theorem Kg.lo3 {w0 w : World} {g : Nat} (k : Kg g w0 w) (y0 y1 y2 : Value) : Kg g w0 (((w.setCell ⟨g, 7, none⟩ y0).setCell ⟨g, 8, none⟩ y1).setCell ⟨g, 9, none⟩ y2) := (Kg.set_ (Kg.set_ (Kg.set_ k 7 y0) 8 y1) 9 y2)
theorem Blk.hi3 {w : World} {g : Nat} {t : TypeId} {a0 a1 a2 a3 a4 a5 x0 x1 x2 x3 x4 x5 x6 x7 x8 x9 c0 c1 c2 : Value} (h : Blk w g t #[a0, a1, a2, a3, a4, a5, x0, x1, x2, x3, x4, x5, x6, x7, x8, x9, c0, c1, c2]) (y0 y1 y2 : Value) : Blk (((w.setCell ⟨g, 10, none⟩ y0).setCell ⟨g, 11, none⟩ y1).setCell ⟨g, 12, none⟩ y2) g t #[a0, a1, a2, a3, a4, a5, x0, x1, x2, x3, y0, y1, y2, x7, x8, x9, c0, c1, c2] := by
  have h' := (((h.set_ 10 y0).set_ 11 y1).set_ 12 y2)
  simpa using h'
theorem Kg.hi3 {w0 w : World} {g : Nat} (k : Kg g w0 w) (y0 y1 y2 : Value) : Kg g w0 (((w.setCell ⟨g, 10, none⟩ y0).setCell ⟨g, 11, none⟩ y1).setCell ⟨g, 12, none⟩ y2) := (Kg.set_ (Kg.set_ (Kg.set_ k 10 y0) 11 y1) 12 y2)
theorem Blk.st3 {w : World} {g : Nat} {t : TypeId} {a0 a1 a2 a3 a4 a5 x0 x1 x2 x3 x4 x5 x6 x7 x8 x9 c0 c1 c2 : Value} (h : Blk w g t #[a0, a1, a2, a3, a4, a5, x0, x1, x2, x3, x4, x5, x6, x7, x8, x9, c0, c1, c2]) (y0 y1 y2 : Value) : Blk (((w.setCell ⟨g, 13, none⟩ y0).setCell ⟨g, 14, none⟩ y1).setCell ⟨g, 15, none⟩ y2) g t #[a0, a1, a2, a3, a4, a5, x0, x1, x2, x3, x4, x5, x6, y0, y1, y2, c0, c1, c2] := by
  have h' := (((h.set_ 13 y0).set_ 14 y1).set_ 15 y2)
  simpa using h'
theorem Kg.st3 {w0 w : World} {g : Nat} (k : Kg g w0 w) (y0 y1 y2 : Value) : Kg g w0 (((w.setCell ⟨g, 13, none⟩ y0).setCell ⟨g, 14, none⟩ y1).setCell ⟨g, 15, none⟩ y2) := (Kg.set_ (Kg.set_ (Kg.set_ k 13 y0) 14 y1) 15 y2)

set_option maxRecDepth 100000 in
set_option maxHeartbeats 1000000 in
theorem st_begin_star (g : Nat) (w : World) (lo hi : Int) (A : Option Addr) (c : Nat) (l : List ByteArray) (week : Bool) (s : ByteArray) (k : Nat)  (x0 x1 x2 x3 x4 x5 x6 x7 x8 x9 : Value) (ls b th : Value) (hs : s.size ≤ 100000) (hk : k ≤ s.size)
    (hlo : 0 ≤ lo) (hlo2 : lo ≤ 62) (hnl : l.length ≤ 1000) (hA : Names w g A l) (hT : Tabs w) (hg : 12 ≤ g)
    (hq : Fs.byteAt s.data.toList k 42 = true) (hk' : k < s.size)
    (hB : Blk w g 124 #[.int .i64 lo, .int .i64 hi, .slice A l.length c, .bool week, .string s, .int .i64 k, x0, x1, x2, x3, x4, x5, x6, x7, x8, x9, ls, b, th]) :
    Calls Tryz.prog 64 #[.pointer (some ⟨g, 0, none⟩)] w fun e w' =>
      e = .returned fnSlash ∧ Kg g w w' ∧ Blk w' g 124 #[.int .i64 lo, .int .i64 hi, .slice A l.length c, .bool week, .string s, .int .i64 (k + 1 : Nat), .bool true, .int .i64 0, .int .i64 0, .bool false, .int .i64 0, .int .i64 0, .bool false, .int .i64 0, .int .i64 0, .bool false, ls, b, th] := by
  have HB := Lib.hid hB
  have HT := Lib.hid hT
  have HA := Lib.hid hA
  have hgl := hB.lt
  have Hhq := Lib.hid hq
  obtain ⟨hc0, hf0⟩ := hB.facts
  clear hB hT hA hq
  go_enter Tryz.func64, Tryz.ntmps64
  go_wp2_with (go_at_call 100; refine (rd_next_yes g 42 _ lo hi _ week s k _ _ _ _ _ _ _ _ _ _ _ _ _ hs hk Hhq.out (HB.out.now10 _ _ _ _ _ _ _ _ _ _)).mono ?_; rintro e w1 ⟨rfl, hk1, hB1⟩; have HB1 := Lib.hid hB1; clear hB1; obtain ⟨hc, hf⟩ := HB1.out.facts)
  go_ret
  exact ⟨rfl, Kg.set_ ((Kg.now10 (Kp.refl (fun i => i = g) w) _ _ _ _ _ _ _ _ _ _ : Kg g w _).trans hk1) _ _, HB1.out.set_ 6 _⟩

set_option maxRecDepth 100000 in
set_option maxHeartbeats 1000000 in
theorem st_begin_bad1 (g : Nat) (w : World) (lo hi : Int) (A : Option Addr) (c : Nat) (l : List ByteArray) (week : Bool) (s : ByteArray) (k : Nat)  (x0 x1 x2 x3 x4 x5 x6 x7 x8 x9 : Value) (ls b th : Value) (hs : s.size ≤ 100000) (hk : k ≤ s.size)
    (hlo : 0 ≤ lo) (hlo2 : lo ≤ 62) (hnl : l.length ≤ 1000) (hA : Names w g A l) (hT : Tabs w) (hg : 12 ≤ g)
    (hq : Fs.byteAt s.data.toList k 42 = false) (hv : Fs.valAt (kind lo hi l week) s.data.toList k = none)
    (hB : Blk w g 124 #[.int .i64 lo, .int .i64 hi, .slice A l.length c, .bool week, .string s, .int .i64 k, x0, x1, x2, x3, x4, x5, x6, x7, x8, x9, ls, b, th]) :
    Calls Tryz.prog 64 #[.pointer (some ⟨g, 0, none⟩)] w fun e w' =>
      e = .returned .nilFunc ∧ Kg g w w' ∧ ∃ x0 x1 x2 x3 x4 x5 x6 x7 x8 x9, Blk w' g 124 #[.int .i64 lo, .int .i64 hi, .slice A l.length c, .bool week, .string s, .int .i64 k, x0, x1, x2, x3, x4, x5, x6, x7, x8, x9, ls, .bool true, th] := by
  have HB := Lib.hid hB
  have HT := Lib.hid hT
  have HA := Lib.hid hA
  have hgl := hB.lt
  have Hhq := Lib.hid hq
  have Hhv := Lib.hid hv
  obtain ⟨hc0, hf0⟩ := hB.facts
  clear hB hT hA hq hv
  go_enter Tryz.func64, Tryz.ntmps64
  go_wp2_with (first
    | (go_at_call 100; refine (rd_next_no g 42 _ lo hi _ week s k _ _ _ _ _ _ _ _ _ _ _ _ _ hs hk Hhq.out (HB.out.now10 _ _ _ _ _ _ _ _ _ _)).mono ?_; rintro e w1 ⟨rfl, hk1, hB1⟩; have HB1 := Lib.hid hB1; clear hB1; have HK1 := Lib.hid ((Kg.now10 (Kp.refl (fun i => i = g) w) _ _ _ _ _ _ _ _ _ _ : Kg g w _).trans hk1); clear hk1)
    | (go_at_call 102; refine (rd_valAt_none g _ lo hi A c l week s k _ _ _ _ _ _ _ _ _ _ _ _ _ hs hk hlo hlo2 hnl (HA.out.kp HK1.out (Nat.le_of_lt hgl) (fun i h => by omega)) (HT.out.kp HK1.out (fun i h => by omega)) hg Hhv.out HB1.out).mono ?_; rintro e w2 ⟨vn, va, vt, rfl, hk2, hB2⟩; have HB2 := Lib.hid hB2; clear hB2; have HK2 := Lib.hid (HK1.out.trans hk2); clear hk2; obtain ⟨hc, hf⟩ := HB2.out.facts)
    | (go_at_call 103; refine (rd_fail g _ lo hi _ week s k _ _ _ _ _ _ _ _ _ _ _ _ _ _ (HB2.out.lo3 _ _ _)).mono ?_; rintro e w3 ⟨rfl, hk3, hB3⟩))
  go_ret
  exact ⟨rfl, (Kg.lo3 HK2.out _ _ _).trans hk3, _, _, _, _, _, _, _, _, _, _, hB3⟩

set_option maxRecDepth 100000 in
set_option maxHeartbeats 1000000 in
theorem st_begin_one (g : Nat) (w : World) (lo hi : Int) (A : Option Addr) (c : Nat) (l : List ByteArray) (week : Bool) (s : ByteArray) (k : Nat) (v e0 : Nat) (x0 x1 x2 x3 x4 x5 x6 x7 x8 x9 : Value) (ls b th : Value) (hs : s.size ≤ 100000) (hk : k ≤ s.size)
    (hlo : 0 ≤ lo) (hlo2 : lo ≤ 62) (hnl : l.length ≤ 1000) (hA : Names w g A l) (hT : Tabs w) (hg : 12 ≤ g)
    (he : e0 ≤ s.size) (hq : Fs.byteAt s.data.toList k 42 = false) (hv : Fs.valAt (kind lo hi l week) s.data.toList k = some (v, e0)) (hq2 : Fs.byteAt s.data.toList e0 45 = false)
    (hB : Blk w g 124 #[.int .i64 lo, .int .i64 hi, .slice A l.length c, .bool week, .string s, .int .i64 k, x0, x1, x2, x3, x4, x5, x6, x7, x8, x9, ls, b, th]) :
    Calls Tryz.prog 64 #[.pointer (some ⟨g, 0, none⟩)] w fun e w' =>
      e = .returned fnSlash ∧ Kg g w w' ∧ Blk w' g 124 #[.int .i64 lo, .int .i64 hi, .slice A l.length c, .bool week, .string s, .int .i64 e0, .bool false, .int .i64 v, .int .i64 k, .bool true, .int .i64 0, .int .i64 0, .bool false, .int .i64 0, .int .i64 0, .bool false, ls, b, th] := by
  have HB := Lib.hid hB
  have HT := Lib.hid hT
  have HA := Lib.hid hA
  have hgl := hB.lt
  have Hhq := Lib.hid hq
  have Hhv := Lib.hid hv
  have Hhq2 := Lib.hid hq2
  obtain ⟨hc0, hf0⟩ := hB.facts
  clear hB hT hA hq hv hq2
  go_enter Tryz.func64, Tryz.ntmps64
  go_wp2_with fail
  refine (rd_next_no g 42 _ lo hi _ week s k _ _ _ _ _ _ _ _ _ _ _ _ _ hs hk Hhq.out (HB.out.now10 _ _ _ _ _ _ _ _ _ _)).mono ?_
  rintro e w1 ⟨rfl, hk1, hB1⟩
  have HB1 := Lib.hid hB1
  clear hB1
  have HK1 := Lib.hid ((Kg.now10 (Kp.refl (fun i => i = g) w) _ _ _ _ _ _ _ _ _ _ : Kg g w _).trans hk1)
  clear hk1
  go_wp2_with (go_at_call 102; refine (rd_valAt_some g _ lo hi A c l week s k v e0 _ _ _ _ _ _ _ _ _ _ _ _ _ hs hk hlo hlo2 hnl (HA.out.kp HK1.out (Nat.le_of_lt hgl) (fun i h => by omega)) (HT.out.kp HK1.out (fun i h => by omega)) hg Hhv.out HB1.out).mono ?_; rintro e w2 ⟨rfl, hk2, hB2⟩; have HB2 := Lib.hid hB2; clear hB2; have HK2 := Lib.hid (HK1.out.trans hk2); clear hk2; obtain ⟨hc, hf⟩ := HB2.out.facts)
  refine (rd_next_no g 45 _ lo hi _ week s e0 _ _ _ _ _ _ _ _ _ _ _ _ _ hs he Hhq2.out (HB2.out.lo3 _ _ _)).mono ?_
  rintro e w3 ⟨rfl, hk3, hB3⟩
  have HB3 := Lib.hid hB3
  clear hB3
  have HK3 := Lib.hid ((Kg.lo3 HK2.out _ _ _ : Kg g w _).trans hk3)
  clear hk3
  go_wp2_with fail
  go_ret
  exact ⟨rfl, HK3.out, HB3.out⟩

set_option maxRecDepth 100000 in
set_option maxHeartbeats 1000000 in
theorem st_begin_bad2 (g : Nat) (w : World) (lo hi : Int) (A : Option Addr) (c : Nat) (l : List ByteArray) (week : Bool) (s : ByteArray) (k : Nat) (v e0 : Nat) (x0 x1 x2 x3 x4 x5 x6 x7 x8 x9 : Value) (ls b th : Value) (hs : s.size ≤ 100000) (hk : k ≤ s.size)
    (hlo : 0 ≤ lo) (hlo2 : lo ≤ 62) (hnl : l.length ≤ 1000) (hA : Names w g A l) (hT : Tabs w) (hg : 12 ≤ g)
    (he : e0 ≤ s.size) (he2 : e0 + 1 ≤ s.size) (hq : Fs.byteAt s.data.toList k 42 = false) (hv : Fs.valAt (kind lo hi l week) s.data.toList k = some (v, e0)) (hq2 : Fs.byteAt s.data.toList e0 45 = true) (hv2 : Fs.valAt (kind lo hi l week) s.data.toList (e0 + 1) = none)
    (hB : Blk w g 124 #[.int .i64 lo, .int .i64 hi, .slice A l.length c, .bool week, .string s, .int .i64 k, x0, x1, x2, x3, x4, x5, x6, x7, x8, x9, ls, b, th]) :
    Calls Tryz.prog 64 #[.pointer (some ⟨g, 0, none⟩)] w fun e w' =>
      e = .returned .nilFunc ∧ Kg g w w' ∧ ∃ x0 x1 x2 x3 x4 x5 x6 x7 x8 x9, Blk w' g 124 #[.int .i64 lo, .int .i64 hi, .slice A l.length c, .bool week, .string s, .int .i64 (e0 + 1 : Nat), x0, x1, x2, x3, x4, x5, x6, x7, x8, x9, ls, .bool true, th] := by
  have HB := Lib.hid hB
  have HT := Lib.hid hT
  have HA := Lib.hid hA
  have hgl := hB.lt
  have Hhq := Lib.hid hq
  have Hhv := Lib.hid hv
  have Hhq2 := Lib.hid hq2
  have Hhv2 := Lib.hid hv2
  obtain ⟨hc0, hf0⟩ := hB.facts
  clear hB hT hA hq hv hq2 hv2
  go_enter Tryz.func64, Tryz.ntmps64
  go_wp2_with fail
  refine (rd_next_no g 42 _ lo hi _ week s k _ _ _ _ _ _ _ _ _ _ _ _ _ hs hk Hhq.out (HB.out.now10 _ _ _ _ _ _ _ _ _ _)).mono ?_
  rintro e w1 ⟨rfl, hk1, hB1⟩
  have HB1 := Lib.hid hB1
  clear hB1
  have HK1 := Lib.hid ((Kg.now10 (Kp.refl (fun i => i = g) w) _ _ _ _ _ _ _ _ _ _ : Kg g w _).trans hk1)
  clear hk1
  go_wp2_with (go_at_call 102; refine (rd_valAt_some g _ lo hi A c l week s k v e0 _ _ _ _ _ _ _ _ _ _ _ _ _ hs hk hlo hlo2 hnl (HA.out.kp HK1.out (Nat.le_of_lt hgl) (fun i h => by omega)) (HT.out.kp HK1.out (fun i h => by omega)) hg Hhv.out HB1.out).mono ?_; rintro e w2 ⟨rfl, hk2, hB2⟩; have HB2 := Lib.hid hB2; clear hB2; have HK2 := Lib.hid (HK1.out.trans hk2); clear hk2; obtain ⟨hc, hf⟩ := HB2.out.facts)
  refine (rd_next_yes g 45 _ lo hi _ week s e0 _ _ _ _ _ _ _ _ _ _ _ _ _ hs he Hhq2.out (HB2.out.lo3 _ _ _)).mono ?_
  rintro e w3 ⟨rfl, hk3, hB3⟩
  have HB3 := Lib.hid hB3
  clear hB3
  have HK3 := Lib.hid ((Kg.lo3 HK2.out _ _ _ : Kg g w _).trans hk3)
  clear hk3
  go_wp2_with (first
    | (go_at_call 102; refine (rd_valAt_none g _ lo hi A c l week s (e0 + 1) _ _ _ _ _ _ _ _ _ _ _ _ _ hs he2 hlo hlo2 hnl (HA.out.kp HK3.out (Nat.le_of_lt hgl) (fun i h => by omega)) (HT.out.kp HK3.out (fun i h => by omega)) hg Hhv2.out HB3.out).mono ?_; rintro e w4 ⟨vn, va, vt, rfl, hk4, hB4⟩; have HB4 := Lib.hid hB4; clear hB4; have HK4 := Lib.hid (HK3.out.trans hk4); clear hk4; clear hc hf; obtain ⟨hc, hf⟩ := HB4.out.facts)
    | (go_at_call 103; refine (rd_fail g _ lo hi _ week s (e0 + 1) _ _ _ _ _ _ _ _ _ _ _ _ _ _ (HB4.out.hi3 _ _ _)).mono ?_; rintro e w5 ⟨rfl, hk5, hB5⟩))
  go_ret
  exact ⟨rfl, (Kg.hi3 HK4.out _ _ _).trans hk5, _, _, _, _, _, _, _, _, _, _, hB5⟩

set_option maxRecDepth 100000 in
set_option maxHeartbeats 1000000 in
theorem st_begin_two (g : Nat) (w : World) (lo hi : Int) (A : Option Addr) (c : Nat) (l : List ByteArray) (week : Bool) (s : ByteArray) (k : Nat) (v e0 v2 e2 : Nat) (x0 x1 x2 x3 x4 x5 x6 x7 x8 x9 : Value) (ls b th : Value) (hs : s.size ≤ 100000) (hk : k ≤ s.size)
    (hlo : 0 ≤ lo) (hlo2 : lo ≤ 62) (hnl : l.length ≤ 1000) (hA : Names w g A l) (hT : Tabs w) (hg : 12 ≤ g)
    (he : e0 ≤ s.size) (he2 : e0 + 1 ≤ s.size) (hq : Fs.byteAt s.data.toList k 42 = false) (hv : Fs.valAt (kind lo hi l week) s.data.toList k = some (v, e0)) (hq2 : Fs.byteAt s.data.toList e0 45 = true) (hv2 : Fs.valAt (kind lo hi l week) s.data.toList (e0 + 1) = some (v2, e2))
    (hB : Blk w g 124 #[.int .i64 lo, .int .i64 hi, .slice A l.length c, .bool week, .string s, .int .i64 k, x0, x1, x2, x3, x4, x5, x6, x7, x8, x9, ls, b, th]) :
    Calls Tryz.prog 64 #[.pointer (some ⟨g, 0, none⟩)] w fun e w' =>
      e = .returned fnSlash ∧ Kg g w w' ∧ Blk w' g 124 #[.int .i64 lo, .int .i64 hi, .slice A l.length c, .bool week, .string s, .int .i64 e2, .bool false, .int .i64 v, .int .i64 k, .bool true, .int .i64 v2, .int .i64 (e0 + 1 : Nat), .bool true, .int .i64 0, .int .i64 0, .bool false, ls, b, th] := by
  have HB := Lib.hid hB
  have HT := Lib.hid hT
  have HA := Lib.hid hA
  have hgl := hB.lt
  have Hhq := Lib.hid hq
  have Hhv := Lib.hid hv
  have Hhq2 := Lib.hid hq2
  have Hhv2 := Lib.hid hv2
  obtain ⟨hc0, hf0⟩ := hB.facts
  clear hB hT hA hq hv hq2 hv2
  go_enter Tryz.func64, Tryz.ntmps64
  go_wp2_with fail
  refine (rd_next_no g 42 _ lo hi _ week s k _ _ _ _ _ _ _ _ _ _ _ _ _ hs hk Hhq.out (HB.out.now10 _ _ _ _ _ _ _ _ _ _)).mono ?_
  rintro e w1 ⟨rfl, hk1, hB1⟩
  have HB1 := Lib.hid hB1
  clear hB1
  have HK1 := Lib.hid ((Kg.now10 (Kp.refl (fun i => i = g) w) _ _ _ _ _ _ _ _ _ _ : Kg g w _).trans hk1)
  clear hk1
  go_wp2_with (go_at_call 102; refine (rd_valAt_some g _ lo hi A c l week s k v e0 _ _ _ _ _ _ _ _ _ _ _ _ _ hs hk hlo hlo2 hnl (HA.out.kp HK1.out (Nat.le_of_lt hgl) (fun i h => by omega)) (HT.out.kp HK1.out (fun i h => by omega)) hg Hhv.out HB1.out).mono ?_; rintro e w2 ⟨rfl, hk2, hB2⟩; have HB2 := Lib.hid hB2; clear hB2; have HK2 := Lib.hid (HK1.out.trans hk2); clear hk2; obtain ⟨hc, hf⟩ := HB2.out.facts)
  refine (rd_next_yes g 45 _ lo hi _ week s e0 _ _ _ _ _ _ _ _ _ _ _ _ _ hs he Hhq2.out (HB2.out.lo3 _ _ _)).mono ?_
  rintro e w3 ⟨rfl, hk3, hB3⟩
  have HB3 := Lib.hid hB3
  clear hB3
  have HK3 := Lib.hid ((Kg.lo3 HK2.out _ _ _ : Kg g w _).trans hk3)
  clear hk3
  go_wp2_with (go_at_call 102; refine (rd_valAt_some g _ lo hi A c l week s (e0 + 1) v2 e2 _ _ _ _ _ _ _ _ _ _ _ _ _ hs he2 hlo hlo2 hnl (HA.out.kp HK3.out (Nat.le_of_lt hgl) (fun i h => by omega)) (HT.out.kp HK3.out (fun i h => by omega)) hg Hhv2.out HB3.out).mono ?_; rintro e w4 ⟨rfl, hk4, hB4⟩; have HB4 := Lib.hid hB4; clear hB4; have HK4 := Lib.hid (HK3.out.trans hk4); clear hk4; clear hc hf; obtain ⟨hc, hf⟩ := HB4.out.facts)
  go_ret
  exact ⟨rfl, Kg.hi3 HK4.out _ _ _, HB4.out.hi3 _ _ _⟩

end Go.Proofs.YtjnlgaeedcklaaaGreatDoor
