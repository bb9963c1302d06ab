/-
  A builder's writing at this seat's translation; a number's text; A number's text, as the document has it: the digits from behind; The text of flaws: the plain words, and the document's.
-/
import Derived.Test.YtphcgfljfknbaaaGreatDoorWS
import Derived.WalkKit
import Derived.WalkLawsBesides
import Derived.OwnWalk
import Derived.Lib.AppendIntMem
import Derived.Lib.OthersKept
import Derived.WalkSpells
import Derived.BigQuiet
import Derived.Lib.Hide
import Derived.Laws.BytesString
import Derived.Laws.Cells
import Derived.Laws.NewBlocks
import Derived.Laws.OwnMore
import Derived.Laws.Rows
import Derived.Below
import Derived.Deep.QuietTactic
import Derived.Deep.Draws
import Derived.Deep.DeepFit
import Derived.Deep.Cut
set_option linter.unusedVariables false
set_option linter.unusedSimpArgs false
namespace Go.Proofs.YtphcgfljfknbaaaGreatDoor
open Go.RowKit Go.Shelf
abbrev BX := Tryz.Builder_Extra_169
theorem e_copyCheck : ∀ args w, (callFunc 28 args).run Tryz.prog w = .ok (.enter 28 args) w := enters_of Tryz.func28 (by kernel_rfl) rfl
set_option maxHeartbeats 1000000 in
set_option maxRecDepth 100000 in
theorem bcheck_used (b : Nat) (w : World) (h0 : w.cell? ⟨b, 0, none⟩ = some (.pointer (some ⟨b, 0, none⟩))) :
    Calls Tryz.prog 28 #[.pointer (some ⟨b, 0, none⟩)] w fun e w' => e = .returned (.tuple #[]) ∧ w' = w := by
  obtain ⟨j, hj, _⟩ := Option.map_eq_some_iff.1 BX.sizeBuilder
  go_enter Tryz.func28, Tryz.ntmps28
  go_wp2
  rw [Lib.run_neq_ptr_same w _ Tryz.underlying43 hj]
  go_wp2
  go_end0
  exact ⟨rfl, rfl⟩
set_option maxHeartbeats 1000000 in
set_option maxRecDepth 100000 in
theorem bcheck_fresh (b : Nat) (w : World) (h0 : w.cell? ⟨b, 0, none⟩ = some (.pointer none)) (hsh : w.shape? b = some (46, 2)) (hfz : w.frozen? ⟨b, 0, none⟩ = false) :
    Calls Tryz.prog 28 #[.pointer (some ⟨b, 0, none⟩)] w fun e w' => e = .returned (.tuple #[]) ∧ w' = w.setCell ⟨b, 0, none⟩ (.pointer (some ⟨b, 0, none⟩)) := by
  obtain ⟨j, hj, hjs⟩ := Option.map_eq_some_iff.1 BX.sizeBuilder
  go_enter Tryz.func28, Tryz.ntmps28
  go_wp2
  rw [Lib.run_to_unsafe w ⟨b, 0, none⟩ Tryz.underlying43 Tryz.underlying130 hj (by rw [hjs]; decide) hsh (Nat.zero_lt_succ 1)]
  simp only [Result.andThen]
  rw [Oper.upon_value]
  go_wp2
  rw [run_callFunc_extern Tryz.func48 (by kernel_rfl) (by kernel_rfl) (by kernel_rfl) (e := Extern.AbiNoEscape.same) (by kernel_rfl)]
  rw [Lib.run_noEscape]
  simp only [Result.andThen]
  rw [Oper.upon_value]
  go_wp2
  rw [Lib.run_from_unsafe w ⟨b, 0, none⟩ Tryz.underlying130 Tryz.underlying43 hj hsh BX.liesBuilder]
  simp only [Result.andThen]
  rw [Oper.upon_value]
  go_wp2
  go_end0
  exact ⟨rfl, rfl⟩
abbrev IsB (B b : Nat) (l : List UInt8) (W : World) : Prop := Lib.IsBuilder 46 5 B b (Lib.byteCells l) W
theorem bcheck (B b : Nat) (bs : List Value) (w : World) (h : Lib.IsBuilder 46 5 B b bs w) :
    Calls Tryz.prog 28 #[.pointer (some ⟨b, 0, none⟩)] w fun e w' => e = .returned (.tuple #[]) ∧ (Lib.BuilderAt 46 5 B b (.pointer (some ⟨b, 0, none⟩)) bs w' ∧ Below B w w' ∧ Lib.OthersKept 5 (some b) w w') := by
  rcases h with h | h
  · refine (bcheck_fresh b w h.cell0 h.shape h.frozen0).mono ?_
    rintro e w' ⟨rfl, rfl⟩
    exact ⟨rfl, h.used _, (Below.refl B w).setCell (p := ⟨b, 0, none⟩) h.1 _, (Lib.OthersKept.refl _ _ w).setCell ⟨b, 0, none⟩ rfl _⟩
  · refine (bcheck_used b w h.cell0).mono ?_
    rintro e w' ⟨rfl, rfl⟩
    exact ⟨rfl, h, Below.refl B _, Lib.OthersKept.refl _ _ _⟩
set_option maxHeartbeats 2000000 in
set_option maxRecDepth 100000 in
theorem write_string (B b : Nat) (l : List UInt8) (s : ByteArray) (w : World) (h : IsB B b l w) (hlen : l.length + s.size ≤ 140737488355328) (hBw : B ≤ w.heap.size) :
    Calls Tryz.prog 15 #[.pointer (some ⟨b, 0, none⟩), .string s] w fun e w' => e = .returned (.tuple #[.int .i64 s.size, .nilIface]) ∧ IsB B b (l ++ s.data.toList) w' ∧ Below B w w' ∧ Lib.OthersKept 5 (some b) w w' := by
  obtain ⟨i0, hi, hz0, hz1, hz2⟩ := info_parts BX.infoByte
  have hll : (Lib.byteCells l).length = l.length := Lib.byteCells_length _
  have eC := e_copyCheck
  go_enter Tryz.func15, Tryz.ntmps15
  go_wp2_with (go_at_fn 28; refine (bcheck B b (Lib.byteCells l) _ h).mono ?_)
  rintro e w1 ⟨rfl, h1, hb1, hk1⟩
  have HK1 := Lib.hid hk1; clear hk1
  obtain ⟨hB, v, hbk, hown, hne⟩ := h1
  have c0 : w1.cell? ⟨b, 0, none⟩ = some (.pointer (some ⟨b, 0, none⟩)) := by rw [Lib.cell_of_heap hbk]; rfl
  have c1 : w1.cell? ⟨b, 1, none⟩ = some v := by rw [Lib.cell_of_heap hbk]; rfl
  go_wp2_with (at_builtin; refine Lib.wpList_append_own_string _ rfl _ _ 44 9 rfl B 5 i0 Tryz.underlying44 Tryz.underlying9 hi hz0 hz1 hz2 _ _ _ rfl hown s rfl ?c3 ?c4 ?c5 ?_)
  case c3 => unfold maxLen; omega
  case c4 => omega
  case c5 => have := hb1.size; omega
  intro v' w2 hown' hgrow _
  have hlt : b < w1.heap.size := by
    rcases Nat.lt_or_ge b w1.heap.size with h' | h'
    · exact h'
    · simp [Array.getElem?_eq_none h'] at hbk
  have hb2 : w2.heap[b]? = some (.cells #[.pointer (some ⟨b, 0, none⟩), v] 46 (0, 0)) := by
    rw [hgrow.block b hlt (fun e => hne e.symm)]
    exact hbk
  have d0 : w2.cell? ⟨b, 0, none⟩ = some (.pointer (some ⟨b, 0, none⟩)) := by rw [Lib.cell_of_heap hb2]; rfl
  have d1 : w2.cell? ⟨b, 1, none⟩ = some v := by rw [Lib.cell_of_heap hb2]; rfl
  have f1 : w2.frozen? ⟨b, 1, none⟩ = false := Lib.frozen_of_heap hb2 1
  obtain ⟨ao, n', cap, rfl⟩ : ∃ ao n' cap, v' = .slice ao n' cap := by
    rcases hown'.2 with ⟨hv, _⟩ | ⟨g, cap, cur, hv, _⟩
    · exact ⟨_, _, _, hv⟩
    · exact ⟨_, _, _, hv⟩
  go_wp2
  go_ret2
  have hK2 := (HK1.out.grown hgrow (fun g hg => by
    rcases hown.2 with ⟨hv, h0⟩ | ⟨g', cap', cur, hv, _, hgg, _⟩
    · rw [hv] at hg; cases hg
    · rw [hv] at hg; cases hg; exact ⟨_, _, hgg⟩)).setCell ⟨b, 1, none⟩ rfl (.slice ao n' cap)
  have eq : Lib.byteCells (l ++ s.data.toList) = Lib.byteCells l ++ Lib.strCells s := by unfold Lib.byteCells Lib.strCells; rw [List.map_append]
  refine ⟨rfl, .inr ?_, ?_, hK2⟩
  · rw [eq]; exact Lib.BuilderAt.put (T := 46) (e := 5) hB hb2 (bs' := Lib.byteCells l ++ Lib.strCells s) (by rw [List.length_append, Lib.strCells_length, hll]; exact hown') BX.neB5
  · exact (hb1.grown hgrow (by have := hb1.size; omega) (fun k hk => (hown.lt k hk).1)).setCell (p := ⟨b, 1, none⟩) hB _
theorem build_len (B b : Nat) (l : List UInt8) (w : World) (h : IsB B b l w) :
    Calls Tryz.prog 16 #[.pointer (some ⟨b, 0, none⟩)] w fun e w' => e = .returned (.int .i64 l.length) ∧ w' = w := by
  have := Tryz.Builder_Len B b (Lib.byteCells l) w h
  rwa [Lib.byteCells_length] at this
abbrev PowTab (w : World) : Prop := Lib.TabIs Tryz.prog w "internal/strconv.uint64pow10" .u64 Lib.pow10Tab
theorem formatInt (n : Int) (h0 : -9223372036854775808 ≤ n) (h1 : n ≤ 9223372036854775807) (w : World) (ht : PowTab w) :
    Calls Tryz.prog 12 #[.int .i64 n, .int .i64 10] w fun e w' => e = .returned (.string ⟨(Lib.itoa n).toArray⟩) ∧ Below w.heap.size w w' := by
  go_enter Tryz.func12, Tryz.ntmps12
  go_wp2_with (go_at_call 26; refine (Tryz.internal_strconv_FormatInt_10 n h0 h1 _ ht).mono ?_; rintro e w1 ⟨rfl, k, os, rfl⟩)
  go_ret
  exact ⟨rfl, Lib.below_grow _ _ (Nat.le_refl _) _ _⟩
theorem digits (n : Int) (h0 : -9223372036854775808 ≤ n) (h1 : n ≤ 9223372036854775807) (w : World) (ht : PowTab w) :
    Calls Tryz.prog 5 #[.int .i64 n] w fun e w' => e = .returned (.string ⟨(Lib.itoa n).toArray⟩) ∧ Below w.heap.size w w' := by
  go_enter Tryz.func5, Tryz.ntmps5
  go_wp2_with (go_at_call 12; refine (formatInt n h0 h1 _ ht).mono ?_; rintro e w1 ⟨rfl, hb⟩)
  go_ret
  exact ⟨rfl, hb⟩
end Go.Proofs.YtphcgfljfknbaaaGreatDoor
set_option linter.unusedVariables false
set_option linter.unusedSimpArgs false
namespace Go.Proofs.YtphcgfljfknbaaaGreatDoor
open Go.RowKit
def preD (u : Nat) : List UInt8 := if u = 0 then [] else Lib.decDigits u
theorem dec_step (u : Nat) (h : u ≠ 0) : Lib.decDigits u = preD (u / 10) ++ [UInt8.ofNat (48 + u % 10)] := by
  rw [Lib.decDigits]
  split
  · rename_i hu
    have : u / 10 = 0 := by omega
    rw [this, show u % 10 = u by omega]; rfl
  · rename_i hu
    rw [preD, if_neg (by omega)]
theorem dec_len10 : ∀ k u : Nat, u < 10 ^ (k + 1) → (Lib.decDigits u).length ≤ k + 1
  | 0, u, h => by
    rw [Lib.decDigits, dif_pos (by simpa using h)]; simp
  | k + 1, u, h => by
    rw [Lib.decDigits]
    split
    · simp
    · have := dec_len10 k (u / 10) (by rw [Nat.pow_succ] at h; omega)
      rw [List.length_append]; simp only [List.length_singleton]; omega
def natV : Value → Nat
  | .int _ i => i.natAbs
  | _ => 0
def lenV : Value → Nat
  | .string s => if s.data.size = 0 then 1 else 0
  | _ => 0
end Go.Proofs.YtphcgfljfknbaaaGreatDoor
set_option linter.unusedVariables false
set_option linter.unusedSimpArgs false
namespace Go.Proofs.YtphcgfljfknbaaaGreatDoor
open Go.RowKit
namespace Fl
def words : List (List UInt8) := [[102, 111, 114, 109], [99, 97, 112], [114, 97, 116, 101], [98, 114, 101, 97, 107, 101, 114], [100, 117, 101], [116, 119, 105, 99, 101], [109, 105, 115, 115, 105, 110, 103], [114, 101, 116, 114, 121]]
def word (k : Int) : List UInt8 := words.getD (k - 1).toNat []
def line (K T : Nat → Int) (i : Nat) : List UInt8 := word (K i) ++ [32] ++ Lib.decDigits (T i).toNat ++ [10]
def lines (K T : Nat → Int) : Nat → List UInt8
  | 0 => []
  | i + 1 => lines K T i ++ line K T i
def bad (K T : Nat → Int) (i : Nat) : Bool := decide (K i < 1) || decide (K i > 8) || decide (T i < 0)
def anyBad (K T : Nat → Int) (n : Nat) : Bool := (List.range n).any (bad K T)
def ans (K T : Nat → Int) (n : Nat) : List UInt8 × Int := if anyBad K T n then ([], 2) else if (lines K T n).length > 65536 then ([], 11) else (lines K T n, 0)
theorem lines_mono (K T : Nat → Int) (i : Nat) : ∀ n, i ≤ n → (lines K T i).length ≤ (lines K T n).length := by
  intro n
  induction n with
  | zero => intro h; obtain rfl : i = 0 := by omega
            exact Nat.le_refl _
  | succ n ih =>
    intro h
    rcases Nat.lt_or_ge n i with h' | h'
    · obtain rfl : i = n + 1 := by omega
      exact Nat.le_refl _
    · have := ih h'
      simp only [lines, List.length_append]; omega
theorem anyBad_of (K T : Nat → Int) (n i : Nat) (h : i < n) (hb : bad K T i = true) : anyBad K T n = true := by
  unfold anyBad; rw [List.any_eq_true]; exact ⟨i, by simpa using h, hb⟩
theorem noBad_of (K T : Nat → Int) (n : Nat) (h : ∀ i, i < n → bad K T i = false) : anyBad K T n = false := by
  unfold anyBad; rw [List.any_eq_false]; intro i hi; simp [h i (by simpa using hi)]
theorem bad_no (K T : Nat → Int) (n i : Nat) (h : i < n) (hb : anyBad K T n = false) : bad K T i = false := by
  unfold anyBad at hb; rw [List.any_eq_false] at hb; simpa using hb i (by simpa using h)
theorem word_len (k : Int) : (word k).length ≤ 7 := by
  unfold word
  generalize (k - 1).toNat = m
  match m with
  | 0 => decide
  | 1 => decide
  | 2 => decide
  | 3 => decide
  | 4 => decide
  | 5 => decide
  | 6 => decide
  | 7 => decide
  | m + 8 => simp [words]
end Fl
def FlawsAt (W : World) (A : Option Addr) (n : Nat) (K T : Nat → Int) : Prop :=
  (∀ i, i < n → -9223372036854775808 ≤ K i ∧ K i ≤ 9223372036854775807 ∧ -9223372036854775808 ≤ T i ∧ T i ≤ 9223372036854775807) ∧
  (n = 0 ∨ ∃ b off, A = some ⟨b, off, none⟩ ∧ b < W.heap.size ∧ ∀ i, i < n → W.cell? ⟨b, off + i * 2, none⟩ = some (.int .i64 (K i)) ∧ W.cell? ⟨b, off + i * 2 + 1, none⟩ = some (.int .i64 (T i)))
theorem FlawsAt.below {W w : World} {A : Option Addr} {n : Nat} {K T : Nat → Int} (h : FlawsAt W A n K T) (hb : Below W.heap.size W w) : FlawsAt w A n K T := by
  refine ⟨h.1, ?_⟩
  rcases h.2 with h0 | ⟨b, off, e, hl, hc⟩
  · exact .inl h0
  · refine .inr ⟨b, off, e, Nat.lt_of_lt_of_le hl hb.size, fun i hi => ?_⟩
    obtain ⟨h1, h2⟩ := hc i hi
    exact ⟨by rw [hb.cell (p := ⟨b, _, none⟩) hl]; exact h1, by rw [hb.cell (p := ⟨b, _, none⟩) hl]; exact h2⟩
def I1 (w : World) (n : Nat) (K T : Nat → Int) (i : Value) (wr : World) : Prop :=
  ∃ j : Nat, j ≤ n ∧ i = .int .i64 j ∧ Below w.heap.size w wr ∧ ∀ t, t < j → Fl.bad K T t = false
theorem ans_long {K T : Nat → Int} {n j : Nat} (h : j ≤ n) (hb : ∀ t, t < n → Fl.bad K T t = false) (hl : 65536 < (Fl.lines K T j).length) : Fl.ans K T n = ([], 11) := by
  have := Fl.lines_mono K T j n h
  unfold Fl.ans; rw [if_neg (by rw [Fl.noBad_of K T n hb]; decide), if_pos (by omega)]
theorem ans_good {K T : Nat → Int} {n : Nat} (hb : ∀ t, t < n → Fl.bad K T t = false) (hl : (Fl.lines K T n).length ≤ 65536) : Fl.ans K T n = (Fl.lines K T n, 0) := by
  unfold Fl.ans; rw [if_neg (by rw [Fl.noBad_of K T n hb]; decide), if_neg (by omega)]
end Go.Proofs.YtphcgfljfknbaaaGreatDoor
