/-
  The nine macros: the map that the program makes of them, and what stands at a key. No program in sight.
  The laid texts of the macros, and what the walk through Macro asks of its map.
-/
import Derived.Test.YtjnlgaeedcklaaaGreatDoorXKinds
import Derived.Maps.OwnSet
import Derived.StringKeys
import Derived.Test.YtjnlgaeedcklaaaGreatDoorXReadB
import Derived.Maps.OwnOps
set_option linter.unusedVariables false
set_option linter.unusedSimpArgs false
namespace Go.Proofs.YtjnlgaeedcklaaaGreatDoor
open Go.Maps

/-- The texts that macros stand for. -/
def macT : List (List UInt8) := [[48, 32, 48, 32, 49, 32, 49, 32, 42], [48, 32, 48, 32, 49, 32, 42, 32, 42], [48, 32, 48, 32, 42, 32, 42, 32, 48], [48, 32, 48, 32, 42, 32, 42, 32, 42], [48, 32, 42, 32, 42, 32, 42, 32, 42], [42, 32, 42, 32, 42, 32, 42, 32, 42], [42, 32, 42, 32, 42, 32, 42, 32, 42, 32, 42]]

/-- The map of the macros. -/
def macD : DataW Unit := (DataW.put (DataW.put (DataW.put (DataW.put (DataW.put (DataW.put (DataW.put (DataW.put (DataW.put (.map [] : DataW Unit) (.string [64, 121, 101, 97, 114, 108, 121]) (.lit (.int .i64 0))) (.string [64, 97, 110, 110, 117, 97, 108, 108, 121]) (.lit (.int .i64 0))) (.string [64, 109, 111, 110, 116, 104, 108, 121]) (.lit (.int .i64 1))) (.string [64, 119, 101, 101, 107, 108, 121]) (.lit (.int .i64 2))) (.string [64, 100, 97, 105, 108, 121]) (.lit (.int .i64 3))) (.string [64, 109, 105, 100, 110, 105, 103, 104, 116]) (.lit (.int .i64 3))) (.string [64, 104, 111, 117, 114, 108, 121]) (.lit (.int .i64 4))) (.string [64, 109, 105, 110, 117, 116, 101, 108, 121]) (.lit (.int .i64 5))) (.string [64, 115, 101, 99, 111, 110, 100, 108, 121]) (.lit (.int .i64 6)))

theorem mac_data : macD = .map [(.string [64, 97, 110, 110, 117, 97, 108, 108, 121], .lit (.int .i64 0)), (.string [64, 100, 97, 105, 108, 121], .lit (.int .i64 3)), (.string [64, 104, 111, 117, 114, 108, 121], .lit (.int .i64 4)), (.string [64, 109, 105, 100, 110, 105, 103, 104, 116], .lit (.int .i64 3)), (.string [64, 109, 105, 110, 117, 116, 101, 108, 121], .lit (.int .i64 5)), (.string [64, 109, 111, 110, 116, 104, 108, 121], .lit (.int .i64 1)), (.string [64, 115, 101, 99, 111, 110, 100, 108, 121], .lit (.int .i64 6)), (.string [64, 119, 101, 101, 107, 108, 121], .lit (.int .i64 2)), (.string [64, 121, 101, 97, 114, 108, 121], .lit (.int .i64 0))] := by kernel_rfl

/-- What the map says of a key. -/
theorem mac_look (l : List UInt8) : has macD (.string l) = (Xs.macroText l).isSome ∧ ∀ t, Xs.macroText l = some t → ∃ k : Nat, k < 7 ∧ macD.atKey (.string l) (.lit (.int .i64 0)) = .lit (.int .i64 k) ∧ macT[k]? = some t := by
  rw [mac_data]
  by_cases h_yearly : [64, 121, 101, 97, 114, 108, 121] = l
  · subst h_yearly
    have ht : Xs.macroText [64, 121, 101, 97, 114, 108, 121] = some [48, 32, 48, 32, 49, 32, 49, 32, 42] := by decide +kernel
    rw [ht]
    exact ⟨rfl, fun t h => ⟨0, by decide, rfl, h⟩⟩
  by_cases h_annually : [64, 97, 110, 110, 117, 97, 108, 108, 121] = l
  · subst h_annually
    have ht : Xs.macroText [64, 97, 110, 110, 117, 97, 108, 108, 121] = some [48, 32, 48, 32, 49, 32, 49, 32, 42] := by decide +kernel
    rw [ht]
    exact ⟨rfl, fun t h => ⟨0, by decide, rfl, h⟩⟩
  by_cases h_monthly : [64, 109, 111, 110, 116, 104, 108, 121] = l
  · subst h_monthly
    have ht : Xs.macroText [64, 109, 111, 110, 116, 104, 108, 121] = some [48, 32, 48, 32, 49, 32, 42, 32, 42] := by decide +kernel
    rw [ht]
    exact ⟨rfl, fun t h => ⟨1, by decide, rfl, h⟩⟩
  by_cases h_weekly : [64, 119, 101, 101, 107, 108, 121] = l
  · subst h_weekly
    have ht : Xs.macroText [64, 119, 101, 101, 107, 108, 121] = some [48, 32, 48, 32, 42, 32, 42, 32, 48] := by decide +kernel
    rw [ht]
    exact ⟨rfl, fun t h => ⟨2, by decide, rfl, h⟩⟩
  by_cases h_daily : [64, 100, 97, 105, 108, 121] = l
  · subst h_daily
    have ht : Xs.macroText [64, 100, 97, 105, 108, 121] = some [48, 32, 48, 32, 42, 32, 42, 32, 42] := by decide +kernel
    rw [ht]
    exact ⟨rfl, fun t h => ⟨3, by decide, rfl, h⟩⟩
  by_cases h_midnight : [64, 109, 105, 100, 110, 105, 103, 104, 116] = l
  · subst h_midnight
    have ht : Xs.macroText [64, 109, 105, 100, 110, 105, 103, 104, 116] = some [48, 32, 48, 32, 42, 32, 42, 32, 42] := by decide +kernel
    rw [ht]
    exact ⟨rfl, fun t h => ⟨3, by decide, rfl, h⟩⟩
  by_cases h_hourly : [64, 104, 111, 117, 114, 108, 121] = l
  · subst h_hourly
    have ht : Xs.macroText [64, 104, 111, 117, 114, 108, 121] = some [48, 32, 42, 32, 42, 32, 42, 32, 42] := by decide +kernel
    rw [ht]
    exact ⟨rfl, fun t h => ⟨4, by decide, rfl, h⟩⟩
  by_cases h_minutely : [64, 109, 105, 110, 117, 116, 101, 108, 121] = l
  · subst h_minutely
    have ht : Xs.macroText [64, 109, 105, 110, 117, 116, 101, 108, 121] = some [42, 32, 42, 32, 42, 32, 42, 32, 42] := by decide +kernel
    rw [ht]
    exact ⟨rfl, fun t h => ⟨5, by decide, rfl, h⟩⟩
  by_cases h_secondly : [64, 115, 101, 99, 111, 110, 100, 108, 121] = l
  · subst h_secondly
    have ht : Xs.macroText [64, 115, 101, 99, 111, 110, 100, 108, 121] = some [42, 32, 42, 32, 42, 32, 42, 32, 42, 32, 42] := by decide +kernel
    rw [ht]
    exact ⟨rfl, fun t h => ⟨6, by decide, rfl, h⟩⟩
  have n_yearly : ¬ l = [64, 121, 101, 97, 114, 108, 121] := Ne.symm h_yearly
  have n_annually : ¬ l = [64, 97, 110, 110, 117, 97, 108, 108, 121] := Ne.symm h_annually
  have n_monthly : ¬ l = [64, 109, 111, 110, 116, 104, 108, 121] := Ne.symm h_monthly
  have n_weekly : ¬ l = [64, 119, 101, 101, 107, 108, 121] := Ne.symm h_weekly
  have n_daily : ¬ l = [64, 100, 97, 105, 108, 121] := Ne.symm h_daily
  have n_midnight : ¬ l = [64, 109, 105, 100, 110, 105, 103, 104, 116] := Ne.symm h_midnight
  have n_hourly : ¬ l = [64, 104, 111, 117, 114, 108, 121] := Ne.symm h_hourly
  have n_minutely : ¬ l = [64, 109, 105, 110, 117, 116, 101, 108, 121] := Ne.symm h_minutely
  have n_secondly : ¬ l = [64, 115, 101, 99, 111, 110, 100, 108, 121] := Ne.symm h_secondly
  have ht : Xs.macroText l = none := by
    unfold Xs.macroText
    simp [n_yearly, n_annually, n_monthly, n_weekly, n_daily, n_midnight, n_hourly, n_minutely, n_secondly]
  refine ⟨?_, fun t h => by rw [ht] at h; cases h⟩
  rw [ht]
  simp [Maps.has, Lit.sameKey, h_yearly, h_annually, h_monthly, h_weekly, h_daily, h_midnight, h_hourly, h_minutely, h_secondly]

end Go.Proofs.YtjnlgaeedcklaaaGreatDoor

namespace Go.Proofs.YtjnlgaeedcklaaaGreatDoor
open Go.RowKit Go.Maps

/-- What the walks through macros read: the tables, and the laid texts of the macros. -/
structure TabX (w : World) : Prop where
  tabs : Tabs w
  lt : 0 < w.heap.size
  txt : ∀ (k : Nat) (t : List UInt8), macT[k]? = some t → w.cell? ⟨0, k, none⟩ = some (.string ⟨t.toArray⟩)
  ltm : 4 < w.heap.size
  ml : ∃ m : Int, w.cell? ⟨4, 0, none⟩ = some (.int .i64 m)

theorem TabX.grow {w w' : World} (h : TabX w) (hb : Below w.heap.size w w') : TabX w' :=
  ⟨h.tabs.grow hb, Nat.lt_of_lt_of_le h.lt hb.size, fun k t ht => (hb.cell (p := ⟨0, k, none⟩) h.lt).trans (h.txt k t ht), Nat.lt_of_lt_of_le h.ltm hb.size, h.ml.imp fun m hm => (hb.cell (p := ⟨4, 0, none⟩) h.ltm).trans hm⟩
theorem TabX.alloc {w : World} (h : TabX w) (o : Obj) : TabX (w.alloc o) := h.grow ((Below.refl _ _).alloc (Nat.le_refl _) _)
theorem TabX.drewN {w : World} (h : TabX w) (n : Nat) : TabX (w.drewN n) := ⟨h.tabs.drewN n, h.lt, h.txt, h.ltm, h.ml⟩
theorem TabX.drew {w : World} (h : TabX w) : TabX w.drew := ⟨h.tabs.drew, h.lt, h.txt, h.ltm, h.ml⟩

theorem str_keyed : Keyed Tryz.prog 9 := string_keyed Tryz.underlying9
theorem zero_int (w : World) : (zeroValue 3).run Tryz.prog w = .ok (.int .i64 0) w := by kernel_rfl
theorem key_at (s : ByteArray) (h : s.size ≤ 100000) : keyOf Tryz.prog 9 (.string s) = some (.string s.data.toList) := Go.WideMaps.keyOf_string_mk Tryz.underlying9 (by unfold maxLen; omega)

theorem mac_none {l : List UInt8} (h : Xs.macroText l = none) : Xs.mac KX l = (Xs.Ex.zero, false) := by unfold Xs.mac; rw [h]
theorem mac_some {l t : List UInt8} (h : Xs.macroText l = some t) : Xs.mac KX l = ((Xs.read KX (Xs.words t) t.length).1, true) := by unfold Xs.mac; rw [h]
theorem macT_small : ∀ t ∈ macT, t.length ≤ 11 := by decide +kernel

/-- What Macro returns. -/
def retM (r : Xs.Ex × Bool) : Value := .tuple #[exN r.1, .bool r.2]

end Go.Proofs.YtjnlgaeedcklaaaGreatDoor
