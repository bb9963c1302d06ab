/-
  The text of flaws: the plain words, and the document's.
-/
import Derived.Test.YtfpfagmmdiohbaaGreatDoorTDig
import Derived.Deep.QuietTactic
import Derived.Deep.Draws
import Derived.Deep.DeepFit
import Derived.Deep.Cut
set_option linter.unusedVariables false
set_option linter.unusedSimpArgs false
namespace Go.Proofs.YtfpfagmmdiohbaaGreatDoor
open Go.RowKit

namespace Fl
def words : List (List UInt8) := [[102, 111, 114, 109], [99, 97, 112], [114, 97, 116, 101], [98, 114, 101, 97, 107, 101, 114], [100, 117, 101], [116, 119, 105, 99, 101], [109, 105, 115, 115, 105, 110, 103], [114, 101, 116, 114, 121]]
def word (k : Int) : List UInt8 := words.getD (k - 1).toNat []
def line (K T : Nat → Int) (i : Nat) : List UInt8 := word (K i) ++ [32] ++ Lib.decDigits (T i).toNat ++ [10]
def lines (K T : Nat → Int) : Nat → List UInt8
  | 0 => []
  | i + 1 => lines K T i ++ line K T i
def bad (K T : Nat → Int) (i : Nat) : Bool := decide (K i < 1) || decide (K i > 8) || decide (T i < 0)
def anyBad (K T : Nat → Int) (n : Nat) : Bool := (List.range n).any (bad K T)
def ans (K T : Nat → Int) (n : Nat) : List UInt8 × Int := if anyBad K T n then ([], 2) else if (lines K T n).length > 65536 then ([], 11) else (lines K T n, 0)
theorem lines_mono (K T : Nat → Int) (i : Nat) : ∀ n, i ≤ n → (lines K T i).length ≤ (lines K T n).length := by
  intro n
  induction n with
  | zero => intro h; obtain rfl : i = 0 := by omega
            exact Nat.le_refl _
  | succ n ih =>
    intro h
    rcases Nat.lt_or_ge n i with h' | h'
    · obtain rfl : i = n + 1 := by omega
      exact Nat.le_refl _
    · have := ih h'
      simp only [lines, List.length_append]; omega
theorem anyBad_of (K T : Nat → Int) (n i : Nat) (h : i < n) (hb : bad K T i = true) : anyBad K T n = true := by
  unfold anyBad; rw [List.any_eq_true]; exact ⟨i, by simpa using h, hb⟩
theorem noBad_of (K T : Nat → Int) (n : Nat) (h : ∀ i, i < n → bad K T i = false) : anyBad K T n = false := by
  unfold anyBad; rw [List.any_eq_false]; intro i hi; simp [h i (by simpa using hi)]
theorem bad_no (K T : Nat → Int) (n i : Nat) (h : i < n) (hb : anyBad K T n = false) : bad K T i = false := by
  unfold anyBad at hb; rw [List.any_eq_false] at hb; simpa using hb i (by simpa using h)
theorem word_len (k : Int) : (word k).length ≤ 7 := by
  unfold word
  generalize (k - 1).toNat = m
  match m with
  | 0 => decide
  | 1 => decide
  | 2 => decide
  | 3 => decide
  | 4 => decide
  | 5 => decide
  | 6 => decide
  | 7 => decide
  | m + 8 => simp [words]
end Fl

def FlawsAt (W : World) (A : Option Addr) (n : Nat) (K T : Nat → Int) : Prop :=
  (∀ i, i < n → -9223372036854775808 ≤ K i ∧ K i ≤ 9223372036854775807 ∧ -9223372036854775808 ≤ T i ∧ T i ≤ 9223372036854775807) ∧
  (n = 0 ∨ ∃ b off, A = some ⟨b, off, none⟩ ∧ b < W.heap.size ∧ ∀ i, i < n → W.cell? ⟨b, off + i * 2, none⟩ = some (.int .i64 (K i)) ∧ W.cell? ⟨b, off + i * 2 + 1, none⟩ = some (.int .i64 (T i)))
theorem FlawsAt.below {W w : World} {A : Option Addr} {n : Nat} {K T : Nat → Int} (h : FlawsAt W A n K T) (hb : Below W.heap.size W w) : FlawsAt w A n K T := by
  refine ⟨h.1, ?_⟩
  rcases h.2 with h0 | ⟨b, off, e, hl, hc⟩
  · exact .inl h0
  · refine .inr ⟨b, off, e, Nat.lt_of_lt_of_le hl hb.size, fun i hi => ?_⟩
    obtain ⟨h1, h2⟩ := hc i hi
    exact ⟨by rw [hb.cell (p := ⟨b, _, none⟩) hl]; exact h1, by rw [hb.cell (p := ⟨b, _, none⟩) hl]; exact h2⟩

def I1 (w : World) (n : Nat) (K T : Nat → Int) (i : Value) (wr : World) : Prop :=
  ∃ j : Nat, j ≤ n ∧ i = .int .i64 j ∧ Below w.heap.size w wr ∧ ∀ t, t < j → Fl.bad K T t = false
def I2 (w : World) (n : Nat) (K T : Nat → Int) (s i : Value) (wr : World) : Prop :=
  ∃ (j : Nat) (l : List UInt8), j ≤ n ∧ i = .int .i64 j ∧ s = .string ⟨l.toArray⟩ ∧ Below w.heap.size w wr ∧ l = Fl.lines K T j ∧ l.length ≤ 65536
theorem ans_bad {K T : Nat → Int} {n j : Nat} (h : j < n) (hb : Fl.bad K T j = true) : Fl.ans K T n = ([], 2) := by
  unfold Fl.ans; rw [if_pos (Fl.anyBad_of K T n j h hb)]
theorem ans_long {K T : Nat → Int} {n j : Nat} (h : j ≤ n) (hb : ∀ t, t < n → Fl.bad K T t = false) (hl : 65536 < (Fl.lines K T j).length) : Fl.ans K T n = ([], 11) := by
  have := Fl.lines_mono K T j n h
  unfold Fl.ans; rw [if_neg (by rw [Fl.noBad_of K T n hb]; decide), if_pos (by omega)]
theorem ans_good {K T : Nat → Int} {n : Nat} (hb : ∀ t, t < n → Fl.bad K T t = false) (hl : (Fl.lines K T n).length ≤ 65536) : Fl.ans K T n = (Fl.lines K T n, 0) := by
  unfold Fl.ans; rw [if_neg (by rw [Fl.noBad_of K T n hb]; decide), if_neg (by omega)]
theorem str_ext {a b : ByteArray} (h : a.data.toList = b.data.toList) : a = b := by
  cases a; cases b; congr; exact Array.toList_inj.1 h

set_option maxRecDepth 100000 in
set_option maxHeartbeats 4000000 in
theorem ref_Text (A : Option Addr) (n c : Nat) (K T : Nat → Int) (w : World) (hn : n ≤ 100000) (hf : FlawsAt w A n K T) :
    Calls Tryz.prog 26 #[.slice A n c] w fun e w' => e = .returned (.tuple #[.string ⟨(Fl.ans K T n).1.toArray⟩, .int .i64 (Fl.ans K T n).2]) ∧ Below w.heap.size w w' := by
  have Hf := Lib.hid hf; clear hf
  go_enter Tryz.func26, Tryz.ntmps26
  go_wp2
  go_loopw [5] (fun i wr => I1 w n K T i wr) (fun i _ => n - natV i)
  case atStart => exact ⟨0, by omega, rfl, Below.refl _ _, fun t h => by omega⟩
  case round =>
    obtain ⟨j, hj, rfl, hb, hok⟩ := hrel
    have Hok := Lib.hid hok; clear hok
    have Hf1 := Lib.hid (Hf.out.below hb)
    have Hb := Lib.hid hb; clear hb
    by_cases hjn : j < n
    · obtain ⟨hrg, hA⟩ := Hf1.out
      rcases hA with h0 | ⟨b, off, rfl, hbl, hc⟩
      · omega
      obtain ⟨c0, c1⟩ := hc j hjn
      clear hc hrg
      by_cases hk1 : K j < 1
      · have Hbad : Hid (Fl.bad K T j = true) := Lib.hid (by simp [Fl.bad, hk1])
        go_wp2
        go_ret2
        exact ⟨by rw [ans_bad hjn Hbad.out]; rfl, Hb.out⟩
      · by_cases hk8 : K j > 8
        · have Hbad : Hid (Fl.bad K T j = true) := Lib.hid (by simp [Fl.bad, hk8])
          go_wp2
          go_ret2
          exact ⟨by rw [ans_bad hjn Hbad.out]; rfl, Hb.out⟩
        · by_cases ht : T j < 0
          · have Hbad : Hid (Fl.bad K T j = true) := Lib.hid (by simp [Fl.bad, ht])
            go_wp2
            go_ret2
            exact ⟨by rw [ans_bad hjn Hbad.out]; rfl, Hb.out⟩
          · have Hbad : Hid (Fl.bad K T j = false) := Lib.hid (by simp [Fl.bad, hk1, hk8, ht])
            go_wp2
            go_roundw
            case rel =>
              refine ⟨j + 1, by omega, by go_num, Hb.out, fun t h => ?_⟩
              rcases Nat.lt_or_ge t j with h' | h'
              · exact Hok.out t h'
              · obtain rfl : t = j := by omega
                exact Hbad.out
            case measure => simp [natV]; omega
    · obtain rfl : j = n := by omega
      go_wp2
      go_loopw [4, 6] (fun s i wr => I2 w j K T s i wr) (fun _ i _ => j - natV i)
      case atStart => exact ⟨0, [], by omega, rfl, rfl, Hb.out, rfl, by simp⟩
      case round =>
        obtain ⟨k, l, hk, rfl, rfl, hb2, hl, hl6⟩ := hrel
        have Hl := Lib.hid hl; clear hl
        have Hf2 := Lib.hid (Hf.out.below hb2)
        have Hb2 := Lib.hid hb2; clear hb2
        clear Hf1 Hb
        by_cases hkn : k < j
        · obtain ⟨hrg, hA⟩ := Hf2.out
          rcases hA with h0 | ⟨b, off, rfl, hbl, hc⟩
          · omega
          obtain ⟨c0, c1⟩ := hc k hkn
          have hr := hrg k hkn
          clear hc hrg Hf2
          have hbd := Hok.out k hkn
          have hb3 : ¬ K k < 1 ∧ ¬ K k > 8 ∧ ¬ T k < 0 := by simpa [Fl.bad, and_assoc] using hbd
          clear hbd
          obtain ⟨t, ht⟩ : ∃ t : Nat, T k = t := ⟨(T k).toNat, by omega⟩
          have htt : t ≤ 9223372036854775807 := by omega
          rw [ht] at c1
          have hdl := dec_len t
          have hD := fun W => ref_Digits_pos t htt W
          have HD := Lib.hid hD; clear hD
          obtain ⟨D, hDd⟩ : ∃ D, Lib.decDigits t = D := ⟨_, rfl⟩
          rw [hDd] at hdl
          have HDd := Lib.hid hDd; clear hDd
          have Ht := Lib.hid ht; clear ht
          have hdl2 : D.length < 9223372036854000000 := by omega
          clear hdl htt
          have h8 : K k = 1 ∨ K k = 2 ∨ K k = 3 ∨ K k = 4 ∨ K k = 5 ∨ K k = 6 ∨ K k = 7 ∨ K k = 8 := by omega
          clear hb3 hr
          rcases h8 with hK | hK | hK | hK | hK | hK | hK | hK
          · have g1 : ¬ 9223372036854775807 < l.length + 4 := by omega
            have g2 : ¬ 9223372036854775807 < l.length + 4 + 1 := by omega
            have g3 : ¬ 9223372036854775807 < l.length + 4 + 1 + D.length := by omega
            have g4 : ¬ 9223372036854775807 < l.length + 4 + 1 + D.length + 1 := by omega
            have Hdl := Lib.hid hdl2
            have Hl6 := Lib.hid hl6
            clear hdl2 hl6
            rw [hK] at c0
            have HK := Lib.hid hK; clear hK
            go_wp2_with fail
            refine (HD.out _).mono ?_
            rintro e w3 ⟨rfl, hb3⟩
            rw [HDd.out]
            clear c0 c1 hbl HD
            go_upto_region 12 with fail
            clear g1 g2 g3 g4
            generalize hS : ((({ data := l.toArray } : ByteArray) ++ { data := #[102, 111, 114, 109] } ++ { data := #[32] } ++ { data := D.toArray } ++ { data := #[10] }) : ByteArray) = S
            have hS2 : S.data.toList = Fl.lines K T (k + 1) := by
              rw [← hS]; simp [Fl.lines, Fl.line, HK.out, Ht.out, HDd.out, Fl.word, Fl.words, ← Hl.out]
            have HS := Lib.hid hS2
            have HB : Hid (Below w.heap.size w w3) := Lib.hid ((Hb2.out.alloc Hb2.out.size _).trans (hb3.mono (Nat.le_trans Hb2.out.size (by simp))))
            clear hS hS2 hb3
            have HZ : Hid (S.size = (Fl.lines K T (k + 1)).length) := Lib.hid (by rw [← HS.out]; exact (Array.length_toList ..).symm)
            by_cases hbig : 65536 < S.size
            · go_wp2_with fail
              go_ret2
              exact ⟨by rw [ans_long (j := k + 1) (by omega) Hok.out (by rw [← HZ.out]; exact hbig)]; rfl, HB.out⟩
            · go_wp2_with fail
              go_roundw
              case rel => exact ⟨k + 1, Fl.lines K T (k + 1), by omega, by go_num, congrArg Value.string (str_ext HS.out), HB.out, rfl, by rw [← HZ.out]; omega⟩
              case measure => simp [natV]; omega
          · have g1 : ¬ 9223372036854775807 < l.length + 3 := by omega
            have g2 : ¬ 9223372036854775807 < l.length + 3 + 1 := by omega
            have g3 : ¬ 9223372036854775807 < l.length + 3 + 1 + D.length := by omega
            have g4 : ¬ 9223372036854775807 < l.length + 3 + 1 + D.length + 1 := by omega
            have Hdl := Lib.hid hdl2
            have Hl6 := Lib.hid hl6
            clear hdl2 hl6
            rw [hK] at c0
            have HK := Lib.hid hK; clear hK
            go_wp2_with fail
            refine (HD.out _).mono ?_
            rintro e w3 ⟨rfl, hb3⟩
            rw [HDd.out]
            clear c0 c1 hbl HD
            go_upto_region 12 with fail
            clear g1 g2 g3 g4
            generalize hS : ((({ data := l.toArray } : ByteArray) ++ { data := #[99, 97, 112] } ++ { data := #[32] } ++ { data := D.toArray } ++ { data := #[10] }) : ByteArray) = S
            have hS2 : S.data.toList = Fl.lines K T (k + 1) := by
              rw [← hS]; simp [Fl.lines, Fl.line, HK.out, Ht.out, HDd.out, Fl.word, Fl.words, ← Hl.out]
            have HS := Lib.hid hS2
            have HB : Hid (Below w.heap.size w w3) := Lib.hid ((Hb2.out.alloc Hb2.out.size _).trans (hb3.mono (Nat.le_trans Hb2.out.size (by simp))))
            clear hS hS2 hb3
            have HZ : Hid (S.size = (Fl.lines K T (k + 1)).length) := Lib.hid (by rw [← HS.out]; exact (Array.length_toList ..).symm)
            by_cases hbig : 65536 < S.size
            · go_wp2_with fail
              go_ret2
              exact ⟨by rw [ans_long (j := k + 1) (by omega) Hok.out (by rw [← HZ.out]; exact hbig)]; rfl, HB.out⟩
            · go_wp2_with fail
              go_roundw
              case rel => exact ⟨k + 1, Fl.lines K T (k + 1), by omega, by go_num, congrArg Value.string (str_ext HS.out), HB.out, rfl, by rw [← HZ.out]; omega⟩
              case measure => simp [natV]; omega
          · have g1 : ¬ 9223372036854775807 < l.length + 4 := by omega
            have g2 : ¬ 9223372036854775807 < l.length + 4 + 1 := by omega
            have g3 : ¬ 9223372036854775807 < l.length + 4 + 1 + D.length := by omega
            have g4 : ¬ 9223372036854775807 < l.length + 4 + 1 + D.length + 1 := by omega
            have Hdl := Lib.hid hdl2
            have Hl6 := Lib.hid hl6
            clear hdl2 hl6
            rw [hK] at c0
            have HK := Lib.hid hK; clear hK
            go_wp2_with fail
            refine (HD.out _).mono ?_
            rintro e w3 ⟨rfl, hb3⟩
            rw [HDd.out]
            clear c0 c1 hbl HD
            go_upto_region 12 with fail
            clear g1 g2 g3 g4
            generalize hS : ((({ data := l.toArray } : ByteArray) ++ { data := #[114, 97, 116, 101] } ++ { data := #[32] } ++ { data := D.toArray } ++ { data := #[10] }) : ByteArray) = S
            have hS2 : S.data.toList = Fl.lines K T (k + 1) := by
              rw [← hS]; simp [Fl.lines, Fl.line, HK.out, Ht.out, HDd.out, Fl.word, Fl.words, ← Hl.out]
            have HS := Lib.hid hS2
            have HB : Hid (Below w.heap.size w w3) := Lib.hid ((Hb2.out.alloc Hb2.out.size _).trans (hb3.mono (Nat.le_trans Hb2.out.size (by simp))))
            clear hS hS2 hb3
            have HZ : Hid (S.size = (Fl.lines K T (k + 1)).length) := Lib.hid (by rw [← HS.out]; exact (Array.length_toList ..).symm)
            by_cases hbig : 65536 < S.size
            · go_wp2_with fail
              go_ret2
              exact ⟨by rw [ans_long (j := k + 1) (by omega) Hok.out (by rw [← HZ.out]; exact hbig)]; rfl, HB.out⟩
            · go_wp2_with fail
              go_roundw
              case rel => exact ⟨k + 1, Fl.lines K T (k + 1), by omega, by go_num, congrArg Value.string (str_ext HS.out), HB.out, rfl, by rw [← HZ.out]; omega⟩
              case measure => simp [natV]; omega
          · have g1 : ¬ 9223372036854775807 < l.length + 7 := by omega
            have g2 : ¬ 9223372036854775807 < l.length + 7 + 1 := by omega
            have g3 : ¬ 9223372036854775807 < l.length + 7 + 1 + D.length := by omega
            have g4 : ¬ 9223372036854775807 < l.length + 7 + 1 + D.length + 1 := by omega
            have Hdl := Lib.hid hdl2
            have Hl6 := Lib.hid hl6
            clear hdl2 hl6
            rw [hK] at c0
            have HK := Lib.hid hK; clear hK
            go_wp2_with fail
            refine (HD.out _).mono ?_
            rintro e w3 ⟨rfl, hb3⟩
            rw [HDd.out]
            clear c0 c1 hbl HD
            go_upto_region 12 with fail
            clear g1 g2 g3 g4
            generalize hS : ((({ data := l.toArray } : ByteArray) ++ { data := #[98, 114, 101, 97, 107, 101, 114] } ++ { data := #[32] } ++ { data := D.toArray } ++ { data := #[10] }) : ByteArray) = S
            have hS2 : S.data.toList = Fl.lines K T (k + 1) := by
              rw [← hS]; simp [Fl.lines, Fl.line, HK.out, Ht.out, HDd.out, Fl.word, Fl.words, ← Hl.out]
            have HS := Lib.hid hS2
            have HB : Hid (Below w.heap.size w w3) := Lib.hid ((Hb2.out.alloc Hb2.out.size _).trans (hb3.mono (Nat.le_trans Hb2.out.size (by simp))))
            clear hS hS2 hb3
            have HZ : Hid (S.size = (Fl.lines K T (k + 1)).length) := Lib.hid (by rw [← HS.out]; exact (Array.length_toList ..).symm)
            by_cases hbig : 65536 < S.size
            · go_wp2_with fail
              go_ret2
              exact ⟨by rw [ans_long (j := k + 1) (by omega) Hok.out (by rw [← HZ.out]; exact hbig)]; rfl, HB.out⟩
            · go_wp2_with fail
              go_roundw
              case rel => exact ⟨k + 1, Fl.lines K T (k + 1), by omega, by go_num, congrArg Value.string (str_ext HS.out), HB.out, rfl, by rw [← HZ.out]; omega⟩
              case measure => simp [natV]; omega
          · have g1 : ¬ 9223372036854775807 < l.length + 3 := by omega
            have g2 : ¬ 9223372036854775807 < l.length + 3 + 1 := by omega
            have g3 : ¬ 9223372036854775807 < l.length + 3 + 1 + D.length := by omega
            have g4 : ¬ 9223372036854775807 < l.length + 3 + 1 + D.length + 1 := by omega
            have Hdl := Lib.hid hdl2
            have Hl6 := Lib.hid hl6
            clear hdl2 hl6
            rw [hK] at c0
            have HK := Lib.hid hK; clear hK
            go_wp2_with fail
            refine (HD.out _).mono ?_
            rintro e w3 ⟨rfl, hb3⟩
            rw [HDd.out]
            clear c0 c1 hbl HD
            go_upto_region 12 with fail
            clear g1 g2 g3 g4
            generalize hS : ((({ data := l.toArray } : ByteArray) ++ { data := #[100, 117, 101] } ++ { data := #[32] } ++ { data := D.toArray } ++ { data := #[10] }) : ByteArray) = S
            have hS2 : S.data.toList = Fl.lines K T (k + 1) := by
              rw [← hS]; simp [Fl.lines, Fl.line, HK.out, Ht.out, HDd.out, Fl.word, Fl.words, ← Hl.out]
            have HS := Lib.hid hS2
            have HB : Hid (Below w.heap.size w w3) := Lib.hid ((Hb2.out.alloc Hb2.out.size _).trans (hb3.mono (Nat.le_trans Hb2.out.size (by simp))))
            clear hS hS2 hb3
            have HZ : Hid (S.size = (Fl.lines K T (k + 1)).length) := Lib.hid (by rw [← HS.out]; exact (Array.length_toList ..).symm)
            by_cases hbig : 65536 < S.size
            · go_wp2_with fail
              go_ret2
              exact ⟨by rw [ans_long (j := k + 1) (by omega) Hok.out (by rw [← HZ.out]; exact hbig)]; rfl, HB.out⟩
            · go_wp2_with fail
              go_roundw
              case rel => exact ⟨k + 1, Fl.lines K T (k + 1), by omega, by go_num, congrArg Value.string (str_ext HS.out), HB.out, rfl, by rw [← HZ.out]; omega⟩
              case measure => simp [natV]; omega
          · have g1 : ¬ 9223372036854775807 < l.length + 5 := by omega
            have g2 : ¬ 9223372036854775807 < l.length + 5 + 1 := by omega
            have g3 : ¬ 9223372036854775807 < l.length + 5 + 1 + D.length := by omega
            have g4 : ¬ 9223372036854775807 < l.length + 5 + 1 + D.length + 1 := by omega
            have Hdl := Lib.hid hdl2
            have Hl6 := Lib.hid hl6
            clear hdl2 hl6
            rw [hK] at c0
            have HK := Lib.hid hK; clear hK
            go_wp2_with fail
            refine (HD.out _).mono ?_
            rintro e w3 ⟨rfl, hb3⟩
            rw [HDd.out]
            clear c0 c1 hbl HD
            go_upto_region 12 with fail
            clear g1 g2 g3 g4
            generalize hS : ((({ data := l.toArray } : ByteArray) ++ { data := #[116, 119, 105, 99, 101] } ++ { data := #[32] } ++ { data := D.toArray } ++ { data := #[10] }) : ByteArray) = S
            have hS2 : S.data.toList = Fl.lines K T (k + 1) := by
              rw [← hS]; simp [Fl.lines, Fl.line, HK.out, Ht.out, HDd.out, Fl.word, Fl.words, ← Hl.out]
            have HS := Lib.hid hS2
            have HB : Hid (Below w.heap.size w w3) := Lib.hid ((Hb2.out.alloc Hb2.out.size _).trans (hb3.mono (Nat.le_trans Hb2.out.size (by simp))))
            clear hS hS2 hb3
            have HZ : Hid (S.size = (Fl.lines K T (k + 1)).length) := Lib.hid (by rw [← HS.out]; exact (Array.length_toList ..).symm)
            by_cases hbig : 65536 < S.size
            · go_wp2_with fail
              go_ret2
              exact ⟨by rw [ans_long (j := k + 1) (by omega) Hok.out (by rw [← HZ.out]; exact hbig)]; rfl, HB.out⟩
            · go_wp2_with fail
              go_roundw
              case rel => exact ⟨k + 1, Fl.lines K T (k + 1), by omega, by go_num, congrArg Value.string (str_ext HS.out), HB.out, rfl, by rw [← HZ.out]; omega⟩
              case measure => simp [natV]; omega
          · have g1 : ¬ 9223372036854775807 < l.length + 7 := by omega
            have g2 : ¬ 9223372036854775807 < l.length + 7 + 1 := by omega
            have g3 : ¬ 9223372036854775807 < l.length + 7 + 1 + D.length := by omega
            have g4 : ¬ 9223372036854775807 < l.length + 7 + 1 + D.length + 1 := by omega
            have Hdl := Lib.hid hdl2
            have Hl6 := Lib.hid hl6
            clear hdl2 hl6
            rw [hK] at c0
            have HK := Lib.hid hK; clear hK
            go_wp2_with fail
            refine (HD.out _).mono ?_
            rintro e w3 ⟨rfl, hb3⟩
            rw [HDd.out]
            clear c0 c1 hbl HD
            go_upto_region 12 with fail
            clear g1 g2 g3 g4
            generalize hS : ((({ data := l.toArray } : ByteArray) ++ { data := #[109, 105, 115, 115, 105, 110, 103] } ++ { data := #[32] } ++ { data := D.toArray } ++ { data := #[10] }) : ByteArray) = S
            have hS2 : S.data.toList = Fl.lines K T (k + 1) := by
              rw [← hS]; simp [Fl.lines, Fl.line, HK.out, Ht.out, HDd.out, Fl.word, Fl.words, ← Hl.out]
            have HS := Lib.hid hS2
            have HB : Hid (Below w.heap.size w w3) := Lib.hid ((Hb2.out.alloc Hb2.out.size _).trans (hb3.mono (Nat.le_trans Hb2.out.size (by simp))))
            clear hS hS2 hb3
            have HZ : Hid (S.size = (Fl.lines K T (k + 1)).length) := Lib.hid (by rw [← HS.out]; exact (Array.length_toList ..).symm)
            by_cases hbig : 65536 < S.size
            · go_wp2_with fail
              go_ret2
              exact ⟨by rw [ans_long (j := k + 1) (by omega) Hok.out (by rw [← HZ.out]; exact hbig)]; rfl, HB.out⟩
            · go_wp2_with fail
              go_roundw
              case rel => exact ⟨k + 1, Fl.lines K T (k + 1), by omega, by go_num, congrArg Value.string (str_ext HS.out), HB.out, rfl, by rw [← HZ.out]; omega⟩
              case measure => simp [natV]; omega
          · have g1 : ¬ 9223372036854775807 < l.length + 5 := by omega
            have g2 : ¬ 9223372036854775807 < l.length + 5 + 1 := by omega
            have g3 : ¬ 9223372036854775807 < l.length + 5 + 1 + D.length := by omega
            have g4 : ¬ 9223372036854775807 < l.length + 5 + 1 + D.length + 1 := by omega
            have Hdl := Lib.hid hdl2
            have Hl6 := Lib.hid hl6
            clear hdl2 hl6
            rw [hK] at c0
            have HK := Lib.hid hK; clear hK
            go_wp2_with fail
            refine (HD.out _).mono ?_
            rintro e w3 ⟨rfl, hb3⟩
            rw [HDd.out]
            clear c0 c1 hbl HD
            go_upto_region 12 with fail
            clear g1 g2 g3 g4
            generalize hS : ((({ data := l.toArray } : ByteArray) ++ { data := #[114, 101, 116, 114, 121] } ++ { data := #[32] } ++ { data := D.toArray } ++ { data := #[10] }) : ByteArray) = S
            have hS2 : S.data.toList = Fl.lines K T (k + 1) := by
              rw [← hS]; simp [Fl.lines, Fl.line, HK.out, Ht.out, HDd.out, Fl.word, Fl.words, ← Hl.out]
            have HS := Lib.hid hS2
            have HB : Hid (Below w.heap.size w w3) := Lib.hid ((Hb2.out.alloc Hb2.out.size _).trans (hb3.mono (Nat.le_trans Hb2.out.size (by simp))))
            clear hS hS2 hb3
            have HZ : Hid (S.size = (Fl.lines K T (k + 1)).length) := Lib.hid (by rw [← HS.out]; exact (Array.length_toList ..).symm)
            by_cases hbig : 65536 < S.size
            · go_wp2_with fail
              go_ret2
              exact ⟨by rw [ans_long (j := k + 1) (by omega) Hok.out (by rw [← HZ.out]; exact hbig)]; rfl, HB.out⟩
            · go_wp2_with fail
              go_roundw
              case rel => exact ⟨k + 1, Fl.lines K T (k + 1), by omega, by go_num, congrArg Value.string (str_ext HS.out), HB.out, rfl, by rw [← HZ.out]; omega⟩
              case measure => simp [natV]; omega
        · obtain rfl : k = j := by omega
          go_wp2
          go_ret2
          exact ⟨by rw [ans_good Hok.out (by rw [← Hl.out]; exact hl6), Hl.out]; rfl, Hb2.out⟩
end Go.Proofs.YtfpfagmmdiohbaaGreatDoor
