/-
  An expression among a law's arguments.
-/
import Derived.Test.YtjnlgaeedcklaaaGreatDoorXRow
import Derived.ChangeArms
set_option linter.unusedVariables false
set_option linter.unusedSimpArgs false
namespace Go.Proofs.YtjnlgaeedcklaaaGreatDoor.XRow
open Go.ChangeShapes Go.WideShapes Go.ChangeAt Go.RowKit

theorem cells_bool : Tryz.prog.cellsOf 4 = 1 := by kernel_rfl
theorem cells_expr : Tryz.prog.cellsOf 25 = 8 := by kernel_rfl

set_option maxRecDepth 100000 in
theorem open_expr {H : Type} {enc : TypeId × Value → H} {W : World} {base : Nat} {sp : Nat → Bool} {held : Bool} {v : Value} {d : DataW H} {p : List MemPlace}
    (hv : Value.okWide Tryz.prog W .any base 25 v) (h : DataW.Trod enc Tryz.prog W 0 sp held 25 v d p) :
    ∃ x : Xs.Ex, v = exV x.second x.minute x.hour x.day x.month x.week x.anyDay x.anyWeek ∧ SmallX x := by
  unfold Value.okWide at hv
  rw [Tryz.underlying25] at hv
  obtain ⟨cs, rfl, hsz, -⟩ := hv
  rw [cells_expr] at hsz
  obtain ⟨n, hn⟩ := h
  have hn' : DataW.trod enc Tryz.prog W 0 sp held n 25 cs.toList = some (d, p) := hn
  clear hn
  cases n with
  | zero => simp [DataW.trod] at hn'
  | succ n =>
    simp only [DataW.trod, Tryz.underlying25] at hn'
    split at hn'
    · obtain ⟨xs, hm, -⟩ := Option.map_eq_some_iff.1 hn'
      obtain ⟨y0, -, g0⟩ := Lib.mapM_at hm 0 _ rfl
      obtain ⟨z0, e0, -, w0⟩ := DataW.trod_int Tryz.underlying23 g0
      have c0 : cs[0]? = some (.int .u64 z0) := by
        have := congrArg (·[0]?) e0
        rw [← Array.getElem?_toList]
        simpa [List.getElem?_take, List.getElem?_drop, cells_u64] using this
      have v0 : 0 ≤ z0 ∧ z0 < 18446744073709551616 := by
        have : 0 ≤ z0 ∧ z0 ≤ 18446744073709551615 := by simpa [Lit.wf, IntKind.min, IntKind.max, IntKind.signed, IntKind.bits] using w0
        omega
      obtain ⟨y1, -, g1⟩ := Lib.mapM_at hm 1 _ rfl
      obtain ⟨z1, e1, -, w1⟩ := DataW.trod_int Tryz.underlying23 g1
      have c1 : cs[1]? = some (.int .u64 z1) := by
        have := congrArg (·[0]?) e1
        rw [← Array.getElem?_toList]
        simpa [List.getElem?_take, List.getElem?_drop, cells_u64] using this
      have v1 : 0 ≤ z1 ∧ z1 < 18446744073709551616 := by
        have : 0 ≤ z1 ∧ z1 ≤ 18446744073709551615 := by simpa [Lit.wf, IntKind.min, IntKind.max, IntKind.signed, IntKind.bits] using w1
        omega
      obtain ⟨y2, -, g2⟩ := Lib.mapM_at hm 2 _ rfl
      obtain ⟨z2, e2, -, w2⟩ := DataW.trod_int Tryz.underlying23 g2
      have c2 : cs[2]? = some (.int .u64 z2) := by
        have := congrArg (·[0]?) e2
        rw [← Array.getElem?_toList]
        simpa [List.getElem?_take, List.getElem?_drop, cells_u64] using this
      have v2 : 0 ≤ z2 ∧ z2 < 18446744073709551616 := by
        have : 0 ≤ z2 ∧ z2 ≤ 18446744073709551615 := by simpa [Lit.wf, IntKind.min, IntKind.max, IntKind.signed, IntKind.bits] using w2
        omega
      obtain ⟨y3, -, g3⟩ := Lib.mapM_at hm 3 _ rfl
      obtain ⟨z3, e3, -, w3⟩ := DataW.trod_int Tryz.underlying23 g3
      have c3 : cs[3]? = some (.int .u64 z3) := by
        have := congrArg (·[0]?) e3
        rw [← Array.getElem?_toList]
        simpa [List.getElem?_take, List.getElem?_drop, cells_u64] using this
      have v3 : 0 ≤ z3 ∧ z3 < 18446744073709551616 := by
        have : 0 ≤ z3 ∧ z3 ≤ 18446744073709551615 := by simpa [Lit.wf, IntKind.min, IntKind.max, IntKind.signed, IntKind.bits] using w3
        omega
      obtain ⟨y4, -, g4⟩ := Lib.mapM_at hm 4 _ rfl
      obtain ⟨z4, e4, -, w4⟩ := DataW.trod_int Tryz.underlying23 g4
      have c4 : cs[4]? = some (.int .u64 z4) := by
        have := congrArg (·[0]?) e4
        rw [← Array.getElem?_toList]
        simpa [List.getElem?_take, List.getElem?_drop, cells_u64] using this
      have v4 : 0 ≤ z4 ∧ z4 < 18446744073709551616 := by
        have : 0 ≤ z4 ∧ z4 ≤ 18446744073709551615 := by simpa [Lit.wf, IntKind.min, IntKind.max, IntKind.signed, IntKind.bits] using w4
        omega
      obtain ⟨y5, -, g5⟩ := Lib.mapM_at hm 5 _ rfl
      obtain ⟨z5, e5, -, w5⟩ := DataW.trod_int Tryz.underlying23 g5
      have c5 : cs[5]? = some (.int .u64 z5) := by
        have := congrArg (·[0]?) e5
        rw [← Array.getElem?_toList]
        simpa [List.getElem?_take, List.getElem?_drop, cells_u64] using this
      have v5 : 0 ≤ z5 ∧ z5 < 18446744073709551616 := by
        have : 0 ≤ z5 ∧ z5 ≤ 18446744073709551615 := by simpa [Lit.wf, IntKind.min, IntKind.max, IntKind.signed, IntKind.bits] using w5
        omega
      obtain ⟨y6, -, g6⟩ := Lib.mapM_at hm 6 _ rfl
      obtain ⟨b6, e6, -⟩ := DataW.trod_bool Tryz.underlying4 g6
      have c6 : cs[6]? = some (.bool b6) := by
        have := congrArg (·[0]?) e6
        rw [← Array.getElem?_toList]
        simpa [List.getElem?_take, List.getElem?_drop, cells_bool, cells_u64] using this
      obtain ⟨y7, -, g7⟩ := Lib.mapM_at hm 7 _ rfl
      obtain ⟨b7, e7, -⟩ := DataW.trod_bool Tryz.underlying4 g7
      have c7 : cs[7]? = some (.bool b7) := by
        have := congrArg (·[0]?) e7
        rw [← Array.getElem?_toList]
        simpa [List.getElem?_take, List.getElem?_drop, cells_bool, cells_u64] using this
      refine ⟨⟨z0.toNat, z1.toNat, z2.toNat, z3.toNat, z4.toNat, z5.toNat, b6, b7⟩, ?_, ⟨fun k s hk => ?_⟩⟩
      · congr 1
        apply Array.ext_getElem?
        intro i
        rw [show ((z0.toNat : Nat) : Int) = z0 by omega]
        rw [show ((z1.toNat : Nat) : Int) = z1 by omega]
        rw [show ((z2.toNat : Nat) : Int) = z2 by omega]
        rw [show ((z3.toNat : Nat) : Int) = z3 by omega]
        rw [show ((z4.toNat : Nat) : Int) = z4 by omega]
        rw [show ((z5.toNat : Nat) : Int) = z5 by omega]
        rcases (by omega : i = 0 ∨ i = 1 ∨ i = 2 ∨ i = 3 ∨ i = 4 ∨ i = 5 ∨ i = 6 ∨ i = 7 ∨ 8 ≤ i) with rfl | rfl | rfl | rfl | rfl | rfl | rfl | rfl | h8
        · exact c0
        · exact c1
        · exact c2
        · exact c3
        · exact c4
        · exact c5
        · exact c6
        · exact c7
        · rw [Array.getElem?_eq_none (by omega), Array.getElem?_eq_none (by simpa using h8)]
      · have hk6 : k < 6 := by have := (List.getElem?_eq_some_iff.1 hk).1; simpa [Xs.Ex.sets] using this
        rcases (by omega : k = 0 ∨ k = 1 ∨ k = 2 ∨ k = 3 ∨ k = 4 ∨ k = 5) with rfl | rfl | rfl | rfl | rfl | rfl <;> (injection hk with hk; subst hk; dsimp only; omega)
    · cases hn'
end Go.Proofs.YtjnlgaeedcklaaaGreatDoor.XRow
