/-
  Rows of six bytes among a law's arguments.
-/
import Derived.Test.YtjnlgaeedcklaaaGreatDoorProg
import Derived.ChangeArms
import Derived.OpenShut
import Derived.WideShapes
set_option linter.unusedVariables false
set_option linter.unusedSimpArgs false
namespace Go.Proofs.YtjnlgaeedcklaaaGreatDoor.XRow
open Go.ChangeShapes Go.WideShapes Go.RowKit

theorem cells_bsix : Tryz.prog.cellsOf 49 = 6 := by kernel_rfl
theorem cells_b8 : Tryz.prog.cellsOf 5 = 1 := by kernel_rfl

theorem add_spot6 (b o j : Nat) : ({ block := b, off := o, spot := none } : Addr).add j = ⟨b, o + j, none⟩ := by
  unfold Addr.add
  split
  · rename_i h; simp [h]
  · rfl

set_option maxRecDepth 100000 in
theorem open_sixes {H : Type} {enc : TypeId × Value → H} {W : World} {base : Nat} {sp : Nat → Bool} {held : Bool} {v : Value} {d : DataW H} {p : List MemPlace}
    (hv : Value.okWide Tryz.prog W .any base 46 v) (h : DataW.Trod enc Tryz.prog W 0 sp held 46 v d p) :
    ∃ (A : Option Addr) (n c : Nat), v = .slice A n c ∧ n ≤ c ∧ c ≤ maxLen ∧ (A = none → c = 0) ∧
      (n = 0 ∨ ∃ b off, A = some ⟨b, off, none⟩ ∧ b < W.heap.size ∧ ∀ i, i < n → ∃ t : Nat → Nat, ∀ j, j < 6 → t j < 256 ∧ W.cell? ⟨b, off + (i * 6 + j), none⟩ = some (.int .u8 (t j))) := by
  obtain ⟨a, len, cap, rfl⟩ := Go.WideShapes.okWide_slice Tryz.underlying46 hv
  obtain ⟨fuel, hf⟩ := h
  rcases DataW.trod_slice Tryz.underlying46 hf with ⟨hcs, hx⟩ | ⟨a', len', cap', elems, rest, n, rfl, hcs, hx, hb, hl, hm, hel, hel2, -, -⟩
  · simp [Value.cells] at hcs
    obtain ⟨rfl, rfl, rfl⟩ := hcs
    exact ⟨none, 0, 0, rfl, Nat.le_refl _, Nat.zero_le _, fun _ => rfl, .inl rfl⟩
  · simp [Value.cells] at hcs
    obtain ⟨rfl, rfl, rfl⟩ := hcs
    refine ⟨some a', len, cap, rfl, hl, hm, (by rintro ⟨⟩), ?_⟩
    rw [cells_bsix] at hel2
    have one : ∀ i, i < len → ∃ cs : List Value, Tryz.prog.cellsOf 49 = cs.length ∧ (∀ j, j < 6 → W.cell? ((a'.add (i * 6)).add j) = cs[j]?) ∧ ∀ j, j < 6 → ∃ z : Int, 0 ≤ z ∧ z < 256 ∧ cs[j]? = some (.int .u8 z) := by
      intro i hi
      have h1 := hel2 i hi
      rw [List.getElem?_eq_getElem (by omega)] at h1
      obtain ⟨cs, hc1, hc2⟩ := Option.bind_eq_some_iff.1 h1
      obtain ⟨xs, m, -, -, hlen, hxl, hxs⟩ := DataW.trod_array Tryz.underlying49 hc2
      obtain ⟨-, -, hcell⟩ := World.cells?_some hc1
      refine ⟨cs, hlen.symm, hcell, fun j hj => ?_⟩
      have h2 := hxs j hj
      rw [List.getElem?_eq_getElem (by omega)] at h2
      obtain ⟨z, e0, -, w0⟩ := DataW.trod_int Tryz.underlying5 h2
      have b0 : 0 ≤ z ∧ z ≤ 255 := by simpa [Lit.wf, IntKind.min, IntKind.max, IntKind.signed, IntKind.bits] using w0
      refine ⟨z, b0.1, by omega, ?_⟩
      rw [cells_b8, Nat.mul_one] at e0
      have := congrArg (·[0]?) e0
      simpa [List.getElem?_take, List.getElem?_drop] using this
    by_cases h0 : len = 0
    · exact .inl h0
    · obtain ⟨cs, -, hc, hz⟩ := one 0 (by omega)
      obtain ⟨z, -, -, hz0⟩ := hz 0 (by omega)
      have hc0 := (hc 0 (by omega)).trans hz0
      have hadd : (a'.add (0 * 6)).add 0 = a' := by rw [Nat.zero_mul]; rfl
      rw [hadd] at hc0
      obtain ⟨b, off, spot⟩ := a'
      obtain rfl : spot = none := World.cell?_spot hc0
      refine .inr ⟨b, off, rfl, ?_, fun i hi => ?_⟩
      · rcases Nat.lt_or_ge b W.heap.size with h | h
        · exact h
        · unfold World.cell? at hc0; simp [Array.getElem?_eq_none h] at hc0
      · obtain ⟨cs, -, hc, hz⟩ := one i hi
        refine ⟨fun j => match cs[j]? with | some (.int .u8 z) => z.toNat | _ => 0, fun j hj => ?_⟩
        obtain ⟨z, z0, z1, hzj⟩ := hz j hj
        have h3 := hc j hj
        rw [add_spot6, add_spot6, hzj, Nat.add_assoc] at h3
        simp only [hzj]
        exact ⟨by omega, h3.trans (by rw [Int.toNat_of_nonneg z0])⟩
end Go.Proofs.YtjnlgaeedcklaaaGreatDoor.XRow
