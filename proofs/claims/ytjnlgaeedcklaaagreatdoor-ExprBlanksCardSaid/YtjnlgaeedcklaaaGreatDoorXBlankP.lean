/-
  strings.ContainsAny of blanks; the words of an expression's text as strings.Split lays them.
-/
import Derived.Test.YtjnlgaeedcklaaaGreatDoorXIndex
import Derived.Test.YtjnlgaeedcklaaaGreatDoorXSplit
import Derived.Test.YtjnlgaeedcklaaaGreatDoorXTabX
import Derived.Test.YtjnlgaeedcklaaaGreatDoorXPlain6
set_option linter.unusedVariables false
set_option linter.unusedSimpArgs false
namespace Go.Proofs.YtjnlgaeedcklaaaGreatDoor
open Go.RowKit

set_option maxHeartbeats 1000000 in
theorem contains_blank (s : ByteArray) (w : World) (hs : s.size < 4294967281) :
    Calls Tryz.prog 31 #[.string s, .string { data := #[32, 9] }] w fun e w' => e = .returned (.bool (decide (0 ≤ Lib.indexAny s.data.toList [32, 9]))) ∧ Below w.heap.size w w' := by
  have HI := Lib.hid fun W => index_blank s W hs
  generalize Lib.indexAny s.data.toList [32, 9] = k at *
  by_cases h : 0 ≤ k
  · have d1 : decide (0 ≤ k) = true := decide_eq_true h
    go_enter Tryz.func31, Tryz.ntmps31
    go_wp2_with (go_at_call 61; (with_reducible refine (HI.out _).mono ?_); rintro e w1 ⟨rfl, hb1⟩)
    go_ret
    exact ⟨by rw [d1]; rfl, hb1⟩
  · have d1 : decide (0 ≤ k) = false := decide_eq_false h
    go_enter Tryz.func31, Tryz.ntmps31
    go_wp2_with (go_at_call 61; (with_reducible refine (HI.out _).mono ?_); rintro e w1 ⟨rfl, hb1⟩)
    go_ret
    exact ⟨by rw [d1]; rfl, hb1⟩
theorem nb_of_index {l : List UInt8} (h : ¬ 0 ≤ Lib.indexAny l [32, 9]) (h0 : l ≠ []) : Xs.Nb l := by
  refine ⟨?_, h0⟩
  rw [Xs.index_word] at h
  split at h
  · rename_i hd
    have e := List.takeWhile_append_dropWhile (p := fun c => !Xs.blank c) (l := l)
    rw [hd, List.append_nil] at e
    rw [← e]
    exact Xs.all_takeWhile' _ _
  · omega

theorem law_Split (T : ByteArray) (h : T.size ≤ 100000) (W : World) (hX : TabX W) : Calls Tryz.prog 30 #[.string T, .string { data := #[32] }] W fun e w' =>
    e = .returned (.slice (some ⟨W.heap.size, 0, none⟩) (Lib.countB T ⟨#[32]⟩ + 1) (Lib.countB T ⟨#[32]⟩ + 1)) ∧ w' = W.alloc (.cells ((Lib.splitB ⟨#[32]⟩ 0 (Lib.countB T ⟨#[32]⟩) T).map Value.string).toArray 9) := by
  obtain ⟨m, hm⟩ := hX.ml
  exact Tryz.strings_Split T ⟨#[32]⟩ m W (by omega) hm (by decide)
/-- The words of an expression's text. -/
def wordsC (ts : List (List UInt8)) : Array Value := (ts.map fun t => Value.string (strOf t)).toArray
theorem split_words {x : Xs.Ex} (hc : Xs.checkB KX x = true) (W : World) (hX : TabX W) (T : ByteArray) (hT : strOf (Xs.joinS (Xs.texts KX x)) = T) (h : T.size ≤ 100000) : Calls Tryz.prog 30 #[.string T, .string { data := #[32] }] W fun e w' =>
    e = .returned (.slice (some ⟨W.heap.size, 0, none⟩) (Xs.texts KX x).length (Xs.texts KX x).length) ∧ w' = W.alloc (.cells (wordsC (Xs.texts KX x)) 9) := by
  have := law_Split T h W hX
  rw [← hT, (split_texts hc).1, (split_texts hc).2, hT] at this
  exact this
theorem lens_short : ∀ (ts : List (List UInt8)) (m : Nat), (∀ t ∈ ts, t.length ≤ m) → Xs.lens ts ≤ ts.length * m := by
  intro ts m
  induction ts with
  | nil => intro _; exact Nat.zero_le _
  | cons t ts ih =>
    intro h
    have h1 := h t (by simp)
    have h2 := ih fun v hv => h v (List.mem_cons_of_mem _ hv)
    rw [Xs.lens, List.length_cons, Nat.succ_mul]
    omega
theorem join_lens : ∀ ts : List (List UInt8), (Xs.joinS ts).length ≤ Xs.lens ts + ts.length := by
  intro ts
  induction ts with
  | nil => exact Nat.le_refl _
  | cons t ts ih =>
    rcases ts with _ | ⟨u, ts⟩
    · rw [Xs.joinS, Xs.lens]; omega
    · have e : Xs.joinS (t :: u :: ts) = t ++ 32 :: Xs.joinS (u :: ts) := rfl
      rw [e, List.length_append, List.length_cons, Xs.lens, List.length_cons (a := t)]
      omega
theorem lens_next {ts : List (List UInt8)} {j : Nat} {t : List UInt8} (h : ts[j]? = some t) : Xs.lens (ts.take (j + 1)) = Xs.lens (ts.take j) + t.length := by
  rw [List.take_add_one, h, Xs.lens_append]
  show _ + (t.length + 0) = _
  omega
theorem words_cell {ts : List (List UInt8)} {k : Nat} {t : List UInt8} (h : ts[k]? = some t) : (wordsC ts)[k]? = some (.string (strOf t)) := by
  rw [wordsC, List.getElem?_toArray, List.getElem?_map, h]; rfl
theorem words_set (ts : List (List UInt8)) (k : Nat) (t : List UInt8) : (wordsC ts).setIfInBounds k (.string (strOf t)) = wordsC (ts.set k t) := by
  rw [wordsC, wordsC, List.setIfInBounds_toArray, List.map_set]
end Go.Proofs.YtjnlgaeedcklaaaGreatDoor
