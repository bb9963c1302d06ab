/-
  A kind among a law's arguments, opened.
-/
import Derived.Test.YtfhcnndleaoobaaGreatDoorFKind
import Derived.Carry
set_option linter.unusedVariables false
set_option linter.unusedSimpArgs false
namespace Go.Proofs.YtfhcnndleaoobaaGreatDoor.FKind
open Go.RowKit Go.ChangeShapes Go.WideShapes Go.Joins

theorem cells_kind : Tryz.prog.cellsOf 24 = 4 := by kernel_rfl
theorem cells_str : Tryz.prog.cellsOf 9 = 1 := by kernel_rfl

set_option maxRecDepth 100000 in
theorem open_kind {H : Type} {enc : TypeId × Value → H} {W : World} {base : Nat} {sp : Nat → Bool} {held : Bool} {v : Value} {d : DataW H} {p : List MemPlace}
    (hv : Value.okWide Tryz.prog W .any base 24 v) (h : DataW.Trod enc Tryz.prog W 0 sp held 24 v d p) :
    ∃ (lo hi : Int) (A : Option Addr) (l : List ByteArray) (c : Nat) (week : Bool), v = .agg #[.int .i64 lo, .int .i64 hi, .slice A l.length c, .bool week] ∧ -9223372036854775808 ≤ lo ∧ lo ≤ 9223372036854775807 ∧ -9223372036854775808 ≤ hi ∧ hi ≤ 9223372036854775807 ∧
      l.length ≤ c ∧ c ≤ maxLen ∧ Names W W.heap.size A l ∧ (∀ s ∈ l, s.size ≤ maxLen) ∧ (A = none → c = 0) := by
  obtain ⟨v0, v1, v2, v3, y0, y1, y2, y3, n, rfl, -, -, h0, h1, h2, h3⟩ := open_agg4 Tryz.underlying24 (by kernel_rfl) cells_kind hv h
  obtain ⟨lo, e0, -, w0⟩ := DataW.trod_int Tryz.underlying3 h0
  obtain ⟨hi, e1, -, w1⟩ := DataW.trod_int Tryz.underlying3 h1
  obtain ⟨week, e3, -⟩ := DataW.trod_bool Tryz.underlying4 h3
  simp only [List.cons.injEq, and_true] at e0 e1 e3
  subst e0 e1 e3
  have b0 : -9223372036854775808 ≤ lo ∧ lo ≤ 9223372036854775807 := by simpa [Lit.wf, IntKind.min, IntKind.max, IntKind.signed, IntKind.bits] using w0
  have b1 : -9223372036854775808 ≤ hi ∧ hi ≤ 9223372036854775807 := by simpa [Lit.wf, IntKind.min, IntKind.max, IntKind.signed, IntKind.bits] using w1
  rcases open_strings Tryz.underlying22 Tryz.underlying9 cells_str h2 with ⟨hcs, -⟩ | ⟨a, len, cap, ss, hcs, _, hl, hm, hz, -, hcell, hsz⟩
  · simp only [List.cons.injEq, and_true] at hcs
    subst hcs
    exact ⟨lo, hi, none, [], 0, week, rfl, b0.1, b0.2, b1.1, b1.2, Nat.le_refl _, Nat.zero_le _, .inl rfl, by simp, fun _ => rfl⟩
  · simp only [List.cons.injEq, and_true] at hcs
    subst hcs
    have hlen : len ≤ ss.length := by rw [hz]; split <;> omega
    have hlt : (ss.take len).length = len := by rw [List.length_take]; omega
    refine ⟨lo, hi, some a, ss.take len, cap, week, by rw [hlt], b0.1, b0.2, b1.1, b1.2, by omega, hm, ?_, fun s hs => hsz s (List.mem_of_mem_take hs), fun h => by cases h⟩
    by_cases h0 : len = 0
    · left; subst h0; rfl
    · obtain ⟨b, off, spot⟩ := a
      have hc0 := hcell 0 (by omega)
      have hspot : spot = none := by simpa [Addr.add] using World.cell?_spot hc0
      subst hspot
      refine .inr ⟨b, off, rfl, ?_, fun j hj => ?_⟩
      · rcases Nat.lt_or_ge b W.heap.size with h | h
        · exact h
        · unfold World.cell? at hc0; simp [Addr.add, Array.getElem?_eq_none h] at hc0
      · rw [hlt] at hj
        have := hcell j (by omega)
        have ea : ({ block := b, off := off, spot := none } : Addr).add j = ⟨b, off + j, none⟩ := by
          unfold Addr.add
          split
          · rename_i h; simp [h]
          · rfl
        rw [ea] at this
        rw [this]
        simp only [List.getD_eq_getElem?_getD, List.getElem?_take, hj, if_true]
end Go.Proofs.YtfhcnndleaoobaaGreatDoor.FKind
