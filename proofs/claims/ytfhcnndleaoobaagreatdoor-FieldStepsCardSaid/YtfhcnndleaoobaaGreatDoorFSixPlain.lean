/-
  The plain laws of the stage's theorem and of normal fields, at the six kinds.
-/
import Derived.Test.YtfhcnndleaoobaaGreatDoorFSixJoin
import Derived.Test.YtfhcnndleaoobaaGreatDoorFPlain2
set_option linter.unusedVariables false
set_option linter.unusedSimpArgs false
namespace Go.Proofs.YtfhcnndleaoobaaGreatDoor
open Go.RowKit

theorem back_plain {i : Nat} {lo hi : Int} {l : List ByteArray} {week : Bool} (h : SixK i lo hi l week) (s : Nat) (hs : s &&& Fs.full (kind lo hi l week) = s) (h0 : s ≠ 0) :
    ∃ T : ByteArray, T.size ≤ 100000 ∧ Fs.printB (kind lo hi l week) s false = (T.data.toList, 0) ∧ Fs.parse (kind lo hi l week) T.data.toList = (s, false, 0, 0) ∧ Fs.normalB (kind lo hi l week) T.data.toList = (T.data.toList, 0, 0) := by
  obtain ⟨f1, f2, f3, f4, f5, f6, f7, f8⟩ := h.facts
  have hp := Fs.print_parse f1 s h0 hs
  have hb : Fs.printB (kind lo hi l week) s false = (Fs.joinB ((Fs.runsOf s).map Fs.runText), 0) := by
    have hneg : ¬ (Fs.checkB (kind lo hi l week) = false ∨ s = 0 ∨ s &&& Fs.full (kind lo hi l week) ≠ s ∨ (false = true ∧ s ≠ Fs.full (kind lo hi l week))) := by
      rintro (h | h | h | h)
      · rw [f1] at h; cases h
      · exact h0 h
      · exact h hs
      · cases h.1
    rw [Fs.printB, if_neg hneg]; rfl
  refine ⟨⟨(Fs.joinB ((Fs.runsOf s).map Fs.runText)).toArray⟩, ?_, hb, hp, ?_⟩
  · have h1 := joinN_len (Fs.runsOf s) _ (Nat.le_refl _)
    rw [joinN_all] at h1
    have h2 := runs_len s
    show (Fs.joinB ((Fs.runsOf s).map Fs.runText)).toArray.size ≤ 100000
    rw [List.size_toArray]; omega
  · show Fs.normalB (kind lo hi l week) (Fs.joinB ((Fs.runsOf s).map Fs.runText)) = (Fs.joinB ((Fs.runsOf s).map Fs.runText), 0, 0)
    rw [Fs.normalB, hp]
    simp only [if_true]
    rw [hb]

theorem norm_plain {i : Nat} {lo hi : Int} {l : List ByteArray} {week : Bool} (h : SixK i lo hi l week) (s : ByteArray) :
    (∃ (S : Nat) (T : ByteArray), T.size ≤ 100000 ∧ S ≠ 0 ∧ S &&& Fs.full (kind lo hi l week) = S ∧ S < 18446744073709551616 ∧ Fs.parse (kind lo hi l week) s.data.toList = (S, s.data.toList == [42], 0, 0) ∧
      Fs.normalB (kind lo hi l week) s.data.toList = (T.data.toList, 0, 0) ∧ Fs.parse (kind lo hi l week) T.data.toList = (S, s.data.toList == [42], 0, 0) ∧ Fs.normalB (kind lo hi l week) T.data.toList = (T.data.toList, 0, 0)) ∨
    (∃ (a : Nat) (e : Int), ((e = 10 ∧ a ≤ s.size) ∨ (e = 2 ∧ a < s.size)) ∧ Fs.parse (kind lo hi l week) s.data.toList = (0, false, a, e) ∧ Fs.normalB (kind lo hi l week) s.data.toList = ([], a, e)) := by
  obtain ⟨f1, f2, f3, f4, f5, f6, f7, f8⟩ := h.facts
  have hlt := Fs.parse_lt f1 s.data.toList
  have hf := Fs.parse_facts f1 s.data.toList
  rcases hp : Fs.parse (kind lo hi l week) s.data.toList with ⟨S, star, a, e⟩
  rw [hp] at hf hlt
  rcases hf with ⟨rfl, h1, h2, h3, rfl⟩ | ⟨rfl, rfl, h1⟩
  · left
    simp only at h1 h2 h3 hlt
    subst h3
    by_cases hs : s.data.toList = [42]
    · obtain ⟨p1, p2⟩ := h.star
      rw [hs] at hp ⊢
      rw [p1] at hp
      injection hp with hp _
      subst hp
      have hb : (([42] : List UInt8) == [42]) = true := rfl
      have hn : Fs.normalB (kind lo hi l week) [42] = ([42], 0, 0) := by rw [Fs.normalB, p1]; simp only [if_true]; rw [p2]
      exact ⟨_, ⟨#[42]⟩, by decide, h1, h2, hlt, rfl, hn, p1, hn⟩
    · have hb : (s.data.toList == [42]) = false := by rw [beq_eq_false_iff_ne]; exact hs
      rw [hb] at hp ⊢
      obtain ⟨T, t1, t2, t3, t4⟩ := back_plain h S h2 h1
      exact ⟨S, T, t1, h1, h2, hlt, rfl, by rw [Fs.normalB, hp]; simp only [if_true]; rw [t2], t3, t4⟩
  · right
    have h1' : (e = 10 ∧ a ≤ s.size) ∨ (e = 2 ∧ a < s.size) := h1
    refine ⟨a, e, h1', rfl, ?_⟩
    rw [Fs.normalB, hp]
    rw [if_neg]
    rcases h1' with h | h <;> (show ¬ e = 0; omega)

theorem star_eq (s : ByteArray) : (s.toList == ByteArray.toList { data := #[42] }) = (s.data.toList == [42]) := by
  rw [ByteArray.toList_eq, ByteArray.toList_eq]

theorem andNot_sub (a b : Nat) (ha : a < 18446744073709551616) (hb : b < 18446744073709551616) (h : a &&& b = a) : (bits .andNot .u64 (a : Int) (b : Int) == 0) = true := by
  rw [u64_andNot_nat a b ha hb, (inside_iff a b ha hb).2 h]; rfl

end Go.Proofs.YtfhcnndleaoobaaGreatDoor
