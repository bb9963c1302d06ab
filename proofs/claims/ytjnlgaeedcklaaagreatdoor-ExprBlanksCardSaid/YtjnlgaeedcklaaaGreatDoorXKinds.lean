/-
  The program's fields: the places of an expression's fields.
  The six kinds as they lie in memory.
  The library's OnesCount64; bits.Count, bits.Inside, bits.Has.
  The six kinds of an expression; the program's full, and what its calls of layer 6 return.
-/
import Derived.Test.YtjnlgaeedcklaaaGreatDoorFBase
import Derived.BigRegion
import Derived.Test.YtjnlgaeedcklaaaGreatDoorFTabs
import Derived.Test.YtjnlgaeedcklaaaGreatDoorFParseP
import Derived.Test.YtjnlgaeedcklaaaGreatDoorFPrintP
import Derived.Test.YtjnlgaeedcklaaaGreatDoorFPrintR2
import Derived.Test.YtjnlgaeedcklaaaGreatDoorXPlain4
import Derived.Laws.BitsAllLaws
import Derived.IntWalk
import Derived.Deep.RegionHeld3
set_option linter.unusedVariables false
set_option linter.unusedSimpArgs false
namespace Go.Proofs.YtjnlgaeedcklaaaGreatDoor
open Go.RowKit

/-- An operation that was passed over yields nothing: for the guards that ask it. -/
theorem yielded_undef : (Go.yielded.match_1 (motive := fun _ => Option Bool) (some undef) (fun b => some b) (fun _ => none)) = none := rfl

/-- The places of the fields of the expression in block b. -/
abbrev ptrs (b : Nat) : Value := .agg #[.pointer (some ⟨b, 0, none⟩), .pointer (some ⟨b, 1, none⟩), .pointer (some ⟨b, 2, none⟩), .pointer (some ⟨b, 3, none⟩), .pointer (some ⟨b, 4, none⟩), .pointer (some ⟨b, 5, none⟩)]

set_option maxHeartbeats 2000000 in
theorem expr_fields (b : Nat) (w : World) : Calls Tryz.prog 48 #[.pointer (some ⟨b, 0, none⟩)] w fun e w' => e = .returned (ptrs b) ∧ Below w.heap.size w w' := by
  go_enter Tryz.func48, Tryz.ntmps48
  go_wp2
  go_region
  all_goals
    go_wp2
    exact bodyPost_ret (v := ptrs b) (by simp [results, Tryz.results48, go_sem]) rfl ⟨rfl, ((Below.refl _ _).alloc (Nat.le_refl _) _).drew⟩
theorem six_cases {p : Nat → Prop} (h0 : p 0) (h1 : p 1) (h2 : p 2) (h3 : p 3) (h4 : p 4) (h5 : p 5) : ∀ i, i < 6 → p i := by
  intro i hi
  rcases (by omega : i = 0 ∨ i = 1 ∨ i = 2 ∨ i = 3 ∨ i = 4 ∨ i = 5) with rfl | rfl | rfl | rfl | rfl | rfl <;> assumption

theorem index_ptrs (b : Nat) (w : World) : ∀ k, k < 6 → (Instr.index 102 (ptrs b) (.int .i64 ((k : Nat) : Int))).run Tryz.prog w = .ok (.pointer (some ⟨b, k, none⟩)) w :=
  six_cases (by kernel_rfl) (by kernel_rfl) (by kernel_rfl) (by kernel_rfl) (by kernel_rfl) (by kernel_rfl)
end Go.Proofs.YtjnlgaeedcklaaaGreatDoor

namespace Go.Proofs.YtjnlgaeedcklaaaGreatDoor
open Go.RowKit

def monthsB : List ByteArray := [⟨#[74, 65, 78]⟩, ⟨#[70, 69, 66]⟩, ⟨#[77, 65, 82]⟩, ⟨#[65, 80, 82]⟩, ⟨#[77, 65, 89]⟩, ⟨#[74, 85, 78]⟩, ⟨#[74, 85, 76]⟩, ⟨#[65, 85, 71]⟩, ⟨#[83, 69, 80]⟩, ⟨#[79, 67, 84]⟩, ⟨#[78, 79, 86]⟩, ⟨#[68, 69, 67]⟩]
def daysB : List ByteArray := [⟨#[83, 85, 78]⟩, ⟨#[77, 79, 78]⟩, ⟨#[84, 85, 69]⟩, ⟨#[87, 69, 68]⟩, ⟨#[84, 72, 85]⟩, ⟨#[70, 82, 73]⟩, ⟨#[83, 65, 84]⟩]

/-- The cells of the six kinds, the names in the blocks m and d. -/
def specCells (m d : Nat) : Array Value := #[.int .i64 0, .int .i64 59, .slice none 0 0, .bool false, .int .i64 0, .int .i64 59, .slice none 0 0, .bool false,
  .int .i64 0, .int .i64 23, .slice none 0 0, .bool false, .int .i64 1, .int .i64 31, .slice none 0 0, .bool false,
  .int .i64 1, .int .i64 12, .slice (some ⟨m, 0, none⟩) 12 12, .bool false, .int .i64 0, .int .i64 6, .slice (some ⟨d, 0, none⟩) 7 7, .bool true]

theorem months_fields0 : Lib.fields [74, 65, 78, 32, 70, 69, 66, 32, 77, 65, 82, 32, 65, 80, 82, 32, 77, 65, 89, 32, 74, 85, 78, 32, 74, 85, 76, 32, 65, 85, 71, 32, 83, 69, 80, 32, 79, 67, 84, 32, 78, 79, 86, 32, 68, 69, 67] = [[74, 65, 78], [70, 69, 66], [77, 65, 82], [65, 80, 82], [77, 65, 89], [74, 85, 78], [74, 85, 76], [65, 85, 71], [83, 69, 80], [79, 67, 84], [78, 79, 86], [68, 69, 67]] := by decide +kernel
theorem days_fields0 : Lib.fields [83, 85, 78, 32, 77, 79, 78, 32, 84, 85, 69, 32, 87, 69, 68, 32, 84, 72, 85, 32, 70, 82, 73, 32, 83, 65, 84] = [[83, 85, 78], [77, 79, 78], [84, 85, 69], [87, 69, 68], [84, 72, 85], [70, 82, 73], [83, 65, 84]] := by decide +kernel
theorem months_fields : ((Lib.fields [74, 65, 78, 32, 70, 69, 66, 32, 77, 65, 82, 32, 65, 80, 82, 32, 77, 65, 89, 32, 74, 85, 78, 32, 74, 85, 76, 32, 65, 85, 71, 32, 83, 69, 80, 32, 79, 67, 84, 32, 78, 79, 86, 32, 68, 69, 67]).map fun l => Value.string ⟨l.toArray⟩).toArray = (monthsB.map Value.string).toArray := by rw [months_fields0]; rfl
theorem days_fields : ((Lib.fields [83, 85, 78, 32, 77, 79, 78, 32, 84, 85, 69, 32, 87, 69, 68, 32, 84, 72, 85, 32, 70, 82, 73, 32, 83, 65, 84]).map fun l => Value.string ⟨l.toArray⟩).toArray = (daysB.map Value.string).toArray := by rw [days_fields0]; rfl

theorem months_call (w : World) (hT : Tabs w) : Calls Tryz.prog 62 #[.string { data := #[74, 65, 78, 32, 70, 69, 66, 32, 77, 65, 82, 32, 65, 80, 82, 32, 77, 65, 89, 32, 74, 85, 78, 32, 74, 85, 76, 32, 65, 85, 71, 32, 83, 69, 80, 32, 79, 67, 84, 32, 78, 79, 86, 32, 68, 69, 67] }] w fun e w' =>
    e = .returned (.slice (some ⟨w.heap.size, 0, none⟩) 12 12) ∧ w' = w.alloc (.cells (monthsB.map Value.string).toArray 9) := by
  refine (Tryz.strings_Fields _ w (by decide) (fun j b h => ?_) hT.space).mono ?_
  · have : b ∈ ([74, 65, 78, 32, 70, 69, 66, 32, 77, 65, 82, 32, 65, 80, 82, 32, 77, 65, 89, 32, 74, 85, 78, 32, 74, 85, 76, 32, 65, 85, 71, 32, 83, 69, 80, 32, 79, 67, 84, 32, 78, 79, 86, 32, 68, 69, 67] : List UInt8) := List.mem_of_getElem? h
    have hall : ([74, 65, 78, 32, 70, 69, 66, 32, 77, 65, 82, 32, 65, 80, 82, 32, 77, 65, 89, 32, 74, 85, 78, 32, 74, 85, 76, 32, 65, 85, 71, 32, 83, 69, 80, 32, 79, 67, 84, 32, 78, 79, 86, 32, 68, 69, 67] : List UInt8).all (fun b => decide (b.toNat < 128)) = true := by decide +kernel
    simpa using List.all_eq_true.1 hall b this
  · rintro e w' ⟨rfl, rfl⟩
    exact ⟨by simp only [months_fields0]; rfl, by rw [months_fields]⟩
theorem days_call (w : World) (hT : Tabs w) : Calls Tryz.prog 62 #[.string { data := #[83, 85, 78, 32, 77, 79, 78, 32, 84, 85, 69, 32, 87, 69, 68, 32, 84, 72, 85, 32, 70, 82, 73, 32, 83, 65, 84] }] w fun e w' =>
    e = .returned (.slice (some ⟨w.heap.size, 0, none⟩) 7 7) ∧ w' = w.alloc (.cells (daysB.map Value.string).toArray 9) := by
  refine (Tryz.strings_Fields _ w (by decide) (fun j b h => ?_) hT.space).mono ?_
  · have : b ∈ ([83, 85, 78, 32, 77, 79, 78, 32, 84, 85, 69, 32, 87, 69, 68, 32, 84, 72, 85, 32, 70, 82, 73, 32, 83, 65, 84] : List UInt8) := List.mem_of_getElem? h
    have hall : ([83, 85, 78, 32, 77, 79, 78, 32, 84, 85, 69, 32, 87, 69, 68, 32, 84, 72, 85, 32, 70, 82, 73, 32, 83, 65, 84] : List UInt8).all (fun b => decide (b.toNat < 128)) = true := by decide +kernel
    simpa using List.all_eq_true.1 hall b this
  · rintro e w' ⟨rfl, rfl⟩
    exact ⟨by simp only [days_fields0]; rfl, by rw [days_fields]⟩

set_option maxHeartbeats 2000000 in
theorem field_Specs (w : World) (hT : Tabs w) : Calls Tryz.prog 32 #[] w fun e w' =>
    e = .returned (.slice (some ⟨w.heap.size + 2, 0, none⟩) 6 6) ∧ w' = ((w.alloc (.cells (monthsB.map Value.string).toArray 9)).alloc (.cells (daysB.map Value.string).toArray 9)).alloc (.cells (specCells w.heap.size (w.heap.size + 1)) 66) := by
  have HT := Lib.hid hT; clear hT
  go_enter Tryz.func32, Tryz.ntmps32
  go_wp2_with (first
    | (go_at_call 62; (with_reducible refine (months_call _ HT.out).mono ?_); rintro e w1 ⟨rfl, rfl⟩)
    | (go_at_call 62; (with_reducible refine (days_call _ (HT.out.alloc _)).mono ?_); rintro e w2 ⟨rfl, rfl⟩))
  go_ret
  exact ⟨rfl, rfl⟩
end Go.Proofs.YtjnlgaeedcklaaaGreatDoor

namespace Go.Proofs.YtjnlgaeedcklaaaGreatDoor
open Go.RowKit

/-- The six kinds lie in the block g. -/
structure SixAt (w : World) (g m d : Nat) : Prop where
  lt : g < w.heap.size
  cells : ∀ j u, (specCells m d)[j]? = some u → w.cell? ⟨g, j, none⟩ = some u
  months : Names w w.heap.size (some ⟨m, 0, none⟩) monthsB
  days : Names w w.heap.size (some ⟨d, 0, none⟩) daysB

theorem SixAt.grow {w w' : World} {g m d : Nat} (h : SixAt w g m d) (hb : Below w.heap.size w w') : SixAt w' g m d :=
  ⟨Nat.lt_of_lt_of_le h.lt hb.size, fun j u hu => (hb.cell (p := ⟨g, j, none⟩) h.lt).trans (h.cells j u hu), h.months.below hb hb.size, h.days.below hb hb.size⟩
theorem SixAt.facts {w : World} {g m d : Nat} (h : SixAt w g m d) : g < w.heap.size ∧
    w.cell? ⟨g, 4, none⟩ = some (.int .i64 0) ∧
    w.cell? ⟨g, 5, none⟩ = some (.int .i64 59) ∧
    w.cell? ⟨g, 6, none⟩ = some (.slice none 0 0) ∧
    w.cell? ⟨g, 7, none⟩ = some (.bool false) ∧
    w.cell? ⟨g, 16, none⟩ = some (.int .i64 1) ∧
    w.cell? ⟨g, 17, none⟩ = some (.int .i64 12) ∧
    w.cell? ⟨g, 18, none⟩ = some (.slice (some ⟨m, 0, none⟩) 12 12) ∧
    w.cell? ⟨g, 19, none⟩ = some (.bool false) ∧
    w.cell? ⟨g, 20, none⟩ = some (.int .i64 0) ∧
    w.cell? ⟨g, 21, none⟩ = some (.int .i64 6) ∧
    w.cell? ⟨g, 22, none⟩ = some (.slice (some ⟨d, 0, none⟩) 7 7) ∧
    w.cell? ⟨g, 23, none⟩ = some (.bool true) :=
  ⟨h.lt, h.cells 4 _ rfl, h.cells 5 _ rfl, h.cells 6 _ rfl, h.cells 7 _ rfl, h.cells 16 _ rfl, h.cells 17 _ rfl, h.cells 18 _ rfl, h.cells 19 _ rfl, h.cells 20 _ rfl, h.cells 21 _ rfl, h.cells 22 _ rfl, h.cells 23 _ rfl⟩

theorem names_of_cells {w : World} {b : Nat} {t : TypeId} {l : List ByteArray} (hb : b < w.heap.size) (h : ∀ j, j < l.length → w.cell? ⟨b, j, none⟩ = some (.string (l.getD j ByteArray.empty))) : Names w w.heap.size (some ⟨b, 0, none⟩) l :=
  .inr ⟨b, 0, rfl, hb, fun j hj => by rw [Nat.zero_add]; exact h j hj⟩

theorem six_laid (w : World) (t : TypeId) : SixAt (((w.alloc (.cells (monthsB.map Value.string).toArray 9)).alloc (.cells (daysB.map Value.string).toArray 9)).alloc (.cells (specCells w.heap.size (w.heap.size + 1)) t)) (w.heap.size + 2) w.heap.size (w.heap.size + 1) := by
  refine ⟨by simp <;> omega, fun j u hu => ?_, ?_, ?_⟩
  · rw [World.cell?_alloc_at _ _ _ _ (by simp <;> omega)]; exact hu
  · refine .inr ⟨_, 0, rfl, by simp <;> omega, fun j hj => ?_⟩
    rw [Nat.zero_add, World.cell?_alloc_past _ _ _ (by simp <;> omega), World.cell?_alloc_past _ _ _ (by simp <;> omega), World.cell?_alloc_at _ _ _ _ (by simp <;> omega)]
    simp only [monthsB, List.length_cons, List.length_nil] at hj
    simp only [List.getElem?_toArray, List.getElem?_map, List.getD]
    rw [List.getElem?_eq_getElem (by simp [monthsB]; omega)]; rfl
  · refine .inr ⟨_, 0, rfl, by simp <;> omega, fun j hj => ?_⟩
    rw [Nat.zero_add, World.cell?_alloc_past _ _ _ (by simp <;> omega)]
    rw [World.cell?_alloc_at _ _ _ _ (by simp <;> omega)]
    simp only [daysB, List.length_cons, List.length_nil] at hj
    simp only [List.getElem?_toArray, List.getElem?_map, List.getD]
    rw [List.getElem?_eq_getElem (by simp [daysB]; omega)]; rfl
end Go.Proofs.YtjnlgaeedcklaaaGreatDoor

namespace Go.Proofs.YtjnlgaeedcklaaaGreatDoor
open Go.RowKit

theorem field_Six (w : World) (hT : Tabs w) : Calls Tryz.prog 32 #[] w fun e w' =>
    ∃ g m d, e = .returned (.slice (some ⟨g, 0, none⟩) 6 6) ∧ Below w.heap.size w w' ∧ SixAt w' g m d ∧ w.heap.size ≤ m ∧ w.heap.size ≤ d := by
  refine (field_Specs w hT).mono ?_
  rintro e w' ⟨rfl, rfl⟩
  exact ⟨_, _, _, rfl, (((Below.refl _ _).alloc (Nat.le_refl _) _).alloc (by simp) _).alloc (by simp <;> omega) _, six_laid w _, Nat.le_refl _, Nat.le_succ _⟩

end Go.Proofs.YtjnlgaeedcklaaaGreatDoor

namespace Go.Proofs.YtjnlgaeedcklaaaGreatDoor
open Go.RowKit

theorem wrap_small (n : Nat) (h : n < 18446744073709551616) : IntKind.u64.wrap (n : Int) = n := by
  rw [IntKind.wrap_u64]; omega
theorem wrap_add (a b : Nat) (h : a + b < 18446744073709551616) : IntKind.u64.wrap ((a : Int) + (b : Int)) = ((a + b : Nat) : Int) := by
  rw [IntKind.wrap_u64]; omega

theorem i64_and_small (a b : Nat) (ha : a < 9223372036854775808) (hb : b < 9223372036854775808) : bits .and .i64 (a : Int) (b : Int) = ((a &&& b : Nat) : Int) := by
  have hx : a &&& b ≤ a := Nat.and_le_left
  show IntKind.i64.wrap ((BitVec.ofInt 64 (a : Int) &&& BitVec.ofInt 64 (b : Int)).toNat : Int) = _
  rw [BitVec.toNat_and, ofInt_u64 a (by omega), ofInt_u64 b (by omega)]
  exact IntWalk.i64_in _ (by omega)

set_option maxRecDepth 100000 in
set_option maxHeartbeats 2000000 in
theorem ones_count (x : Nat) (w : World) (hx : x < 18446744073709551616) : Calls Tryz.prog 57 #[.int .u64 x] w fun e w' => e = .returned (.int .i64 (Xs.cnt 64 x)) ∧ w = w' := by
  obtain ⟨h1, h2, h3, h4, h5, h6, h7⟩ := Xs.cnt_swar x hx
  obtain ⟨M1, m1⟩ : ∃ M : Nat, M = 6148914691236517205 := ⟨_, rfl⟩
  obtain ⟨M2, m2⟩ : ∃ M : Nat, M = 3689348814741910323 := ⟨_, rfl⟩
  obtain ⟨M3, m3⟩ : ∃ M : Nat, M = 1085102592571150095 := ⟨_, rfl⟩
  have l1 : M1 < 18446744073709551616 := by omega
  have l2 : M2 < 18446744073709551616 := by omega
  have l3 : M3 < 18446744073709551616 := by omega
  rw [← m1, ← m2, ← m3] at h7
  rw [← m1] at h1
  rw [← m1, ← m2] at h2 h3
  rw [← m1, ← m2, ← m3] at h4 h5 h6
  obtain ⟨y1, e1⟩ : ∃ y, y = (x / 2 &&& M1) + (x &&& M1) := ⟨_, rfl⟩
  rw [← e1] at h1 h2 h3 h4 h5 h6 h7
  obtain ⟨y2, e2⟩ : ∃ y, y = (y1 / 4 &&& M2) + (y1 &&& M2) := ⟨_, rfl⟩
  rw [← e2] at h2 h3 h4 h5 h6 h7
  obtain ⟨y3, e3⟩ : ∃ y, y = (y2 / 16 + y2) &&& M3 := ⟨_, rfl⟩
  rw [← e3] at h4 h5 h6 h7
  obtain ⟨y4, e4⟩ : ∃ y, y = y3 + y3 / 256 := ⟨_, rfl⟩
  rw [← e4] at h4 h5 h6 h7
  obtain ⟨y5, e5⟩ : ∃ y, y = y4 + y4 / 65536 := ⟨_, rfl⟩
  rw [← e5] at h5 h6 h7
  obtain ⟨y6, e6⟩ : ∃ y, y = y5 + y5 / 4294967296 := ⟨_, rfl⟩
  rw [← e6] at h6 h7
  have hlt : ∀ a M : Nat, M < 18446744073709551616 → a &&& M < 18446744073709551616 := fun a M h => Nat.lt_of_le_of_lt Nat.and_le_right h
  have E1 : Hid (IntKind.u64.wrap (bits .and .u64 ((x : Int) / 2) 6148914691236517205 + bits .and .u64 (x : Int) 6148914691236517205) = (y1 : Int)) := Lib.hid (by
    rw [show ((x : Int) / 2) = ((x / 2 : Nat) : Int) from by omega, show (6148914691236517205 : Int) = (M1 : Int) from by omega, u64_and_nat _ _ (by omega) l1, u64_and_nat _ _ hx l1, wrap_add _ _ (by rw [← e1]; exact h1), ← e1])
  have E2 : Hid (IntKind.u64.wrap (bits .and .u64 ((y1 : Int) / 4) 3689348814741910323 + bits .and .u64 (y1 : Int) 3689348814741910323) = (y2 : Int)) := Lib.hid (by
    rw [show ((y1 : Int) / 4) = ((y1 / 4 : Nat) : Int) from by omega, show (3689348814741910323 : Int) = (M2 : Int) from by omega, u64_and_nat _ _ (by omega) l2, u64_and_nat _ _ h1 l2, wrap_add _ _ (by rw [← e2]; exact h2), ← e2])
  have E3 : Hid (bits .and .u64 (IntKind.u64.wrap ((y2 : Int) / 16 + (y2 : Int))) 1085102592571150095 = (y3 : Int)) := Lib.hid (by
    rw [show ((y2 : Int) / 16) = ((y2 / 16 : Nat) : Int) from by omega, wrap_add _ _ h3, show (1085102592571150095 : Int) = (M3 : Int) from by omega, u64_and_nat _ _ h3 l3, ← e3])
  have E4 : Hid (IntKind.u64.wrap ((y3 : Int) + (y3 : Int) / 256) = (y4 : Int)) := Lib.hid (by
    rw [show ((y3 : Int) / 256) = ((y3 / 256 : Nat) : Int) from by omega, wrap_add _ _ (by rw [← e4]; exact h4), ← e4])
  have E5 : Hid (IntKind.u64.wrap ((y4 : Int) + (y4 : Int) / 65536) = (y5 : Int)) := Lib.hid (by
    rw [show ((y4 : Int) / 65536) = ((y4 / 65536 : Nat) : Int) from by omega, wrap_add _ _ (by rw [← e5]; exact h5), ← e5])
  have E6 : Hid (IntKind.u64.wrap ((y5 : Int) + (y5 : Int) / 4294967296) = (y6 : Int)) := Lib.hid (by
    rw [show ((y5 : Int) / 4294967296) = ((y5 / 4294967296 : Nat) : Int) from by omega, wrap_add _ _ (by rw [← e6]; omega), ← e6])
  have H6 : Hid (y6 < 9223372036854775808) := Lib.hid h6
  have H7 := Lib.hid h7
  clear h1 h2 h3 h4 h5 h6 h7 e1 e2 e3 e4 e5 e6 m1 m2 m3 l1 l2 l3 hlt
  go_enter Tryz.func57, Tryz.ntmps57
  go_wp2
  go_ret
  refine ⟨?_, rfl⟩
  simp only [E1.out, E2.out, E3.out, E4.out, E5.out, E6.out]
  show Ending.returned (.int .i64 (bits .and .i64 (wrap64 (y6 : Int)) 127)) = _
  have hw : wrap64 (y6 : Int) = y6 := by
    have := H6.out
    exact IntWalk.wrap64_in _ (by omega)
  rw [hw, show (127 : Int) = ((127 : Nat) : Int) from rfl, i64_and_small y6 127 H6.out (by decide), nat_mask7, H7.out]

theorem bits_count (x : Nat) (w : World) (hx : x < 18446744073709551616) : Calls Tryz.prog 26 #[.int .u64 x] w fun e w' => e = .returned (.int .i64 (Xs.cnt 64 x)) ∧ w = w' := by
  have HC : Hid (∀ W, Calls Tryz.prog 57 #[.int .u64 x] W fun e w' => e = .returned (.int .i64 (Xs.cnt 64 x)) ∧ W = w') := Lib.hid fun W => ones_count x W hx
  clear hx
  go_enter Tryz.func26, Tryz.ntmps26
  go_wp2_with (go_at_call 57; (with_reducible refine (HC.out _).mono ?_); rintro e w1 ⟨rfl, rfl⟩)
  go_ret
  exact ⟨rfl, rfl⟩

end Go.Proofs.YtjnlgaeedcklaaaGreatDoor

namespace Go.Proofs.YtjnlgaeedcklaaaGreatDoor
open Go.RowKit

def KX : Nat → Fs.Kind
  | 0 => kind 0 59 [] false
  | 1 => kind 0 59 [] false
  | 2 => kind 0 23 [] false
  | 3 => kind 1 31 [] false
  | 4 => kind 1 12 monthsB false
  | _ => kind 0 6 daysB true

theorem kinds_ok : Xs.Kinds KX where
  ok := six_cases (by decide +kernel) (by decide +kernel) (by decide +kernel) (by decide +kernel) (by decide +kernel) (by decide +kernel)
  star := six_cases (by decide +kernel) (by decide +kernel) (by decide +kernel) (by decide +kernel) (by decide +kernel) (by decide +kernel)
  pr := six_cases (by decide +kernel) (by decide +kernel) (by decide +kernel) (by decide +kernel) (by decide +kernel) (by decide +kernel)
  one := by decide +kernel

theorem mac_texts : ∀ t ∈ ([[48, 32, 48, 32, 49, 32, 49, 32, 42], [48, 32, 48, 32, 49, 32, 42, 32, 42], [48, 32, 48, 32, 42, 32, 42, 32, 48], [48, 32, 48, 32, 42, 32, 42, 32, 42], [48, 32, 42, 32, 42, 32, 42, 32, 42], [42, 32, 42, 32, 42, 32, 42, 32, 42], [42, 32, 42, 32, 42, 32, 42, 32, 42, 32, 42]] : List (List UInt8)),
    (Xs.read KX (Xs.words t) t.length).2.2 = 0 := by decide +kernel
theorem mac_ok : Xs.MacOk KX := by
  intro w t h
  unfold Xs.macroText at h
  apply mac_texts
  repeat' split at h
  all_goals first | (injection h with h; subst h; simp; done) | cases h

theorem kx_full3 : Fs.full (KX 3) = 4294967294 := by decide +kernel
theorem kx_full5 : Fs.full (KX 5) = 127 := by decide +kernel
theorem full_days : Xs.FullDays KX where
  day := by
    rw [kx_full3]
    have h : ∀ d, d < 32 → 1 ≤ d → (4294967294 : Nat).testBit d = true := by decide +kernel
    exact fun d h1 h2 => h d (by omega) h1
  week := by
    rw [kx_full5]
    have h : ∀ w, w < 7 → (127 : Nat).testBit w = true := by decide +kernel
    exact fun w hw => h w (by omega)

theorem names_none (w : World) (B : Nat) : Names w B none [] := .inl rfl
/-- The kind i, as its four cells lie in the block g. -/
structure KxAt (w : World) (g i : Nat) (lo hi : Int) (A : Option Addr) (c : Nat) (l : List ByteArray) (week : Bool) : Prop where
  kd : KX i = kind lo hi l week
  c0 : w.cell? ⟨g, i * 4, none⟩ = some (.int .i64 lo)
  c1 : w.cell? ⟨g, i * 4 + 1, none⟩ = some (.int .i64 hi)
  c2 : w.cell? ⟨g, i * 4 + 2, none⟩ = some (.slice A l.length c)
  c3 : w.cell? ⟨g, i * 4 + 3, none⟩ = some (.bool week)
  names : Names w w.heap.size A l
  cap : l.length ≤ c
  lo0 : 0 ≤ lo
  lohi : lo ≤ hi
  hi59 : hi ≤ 59
  len : l.length ≤ 12
  short : ∀ s ∈ l, s.size ≤ 3

theorem SixAt.kx {w : World} {g m d : Nat} (h : SixAt w g m d) : ∀ i, i < 6 → ∃ lo hi A c l week, KxAt w g i lo hi A c l week :=
  six_cases
    ⟨0, 59, none, 0, [], false, rfl, h.cells 0 _ rfl, h.cells 1 _ rfl, h.cells 2 _ rfl, h.cells 3 _ rfl, names_none _ _, by decide, by decide, by decide, by decide, by decide, by decide⟩
    ⟨0, 59, none, 0, [], false, rfl, h.cells 4 _ rfl, h.cells 5 _ rfl, h.cells 6 _ rfl, h.cells 7 _ rfl, names_none _ _, by decide, by decide, by decide, by decide, by decide, by decide⟩
    ⟨0, 23, none, 0, [], false, rfl, h.cells 8 _ rfl, h.cells 9 _ rfl, h.cells 10 _ rfl, h.cells 11 _ rfl, names_none _ _, by decide, by decide, by decide, by decide, by decide, by decide⟩
    ⟨1, 31, none, 0, [], false, rfl, h.cells 12 _ rfl, h.cells 13 _ rfl, h.cells 14 _ rfl, h.cells 15 _ rfl, names_none _ _, by decide, by decide, by decide, by decide, by decide, by decide⟩
    ⟨1, 12, _, 12, monthsB, false, rfl, h.cells 16 _ rfl, h.cells 17 _ rfl, h.cells 18 _ rfl, h.cells 19 _ rfl, h.months, by decide, by decide, by decide, by decide, by decide, by decide⟩
    ⟨0, 6, _, 7, daysB, true, rfl, h.cells 20 _ rfl, h.cells 21 _ rfl, h.cells 22 _ rfl, h.cells 23 _ rfl, h.days, by decide, by decide, by decide, by decide, by decide, by decide⟩

section
variable {w : World} {g i : Nat} {lo hi : Int} {A : Option Addr} {c : Nat} {l : List ByteArray} {week : Bool}
theorem KxAt.grow {w' : World} (h : KxAt w g i lo hi A c l week) (hg : g < w.heap.size) (hb : Below w.heap.size w w') : KxAt w' g i lo hi A c l week :=
  ⟨h.kd, (hb.cell (p := ⟨g, i * 4, none⟩) hg).trans h.c0, (hb.cell (p := ⟨g, i * 4 + 1, none⟩) hg).trans h.c1, (hb.cell (p := ⟨g, i * 4 + 2, none⟩) hg).trans h.c2, (hb.cell (p := ⟨g, i * 4 + 3, none⟩) hg).trans h.c3,
    h.names.below hb hb.size, h.cap, h.lo0, h.lohi, h.hi59, h.len, h.short⟩
theorem KxAt.shorts (h : KxAt w g i lo hi A c l week) : ∀ s ∈ l, s.size ≤ 1000 := fun s hs => Nat.le_trans (h.short s hs) (by decide)
theorem KxAt.ok (h : KxAt w g i lo hi A c l week) (hi6 : i < 6) : Fs.checkB (kind lo hi l week) = true := by rw [← h.kd]; exact kinds_ok.ok i hi6
theorem kx_Full (h : KxAt w g i lo hi A c l week) (hi6 : i < 6) :
    Calls Tryz.prog 81 #[.agg #[.int .i64 lo, .int .i64 hi, .slice A l.length c, .bool week]] w fun e w' => e = .returned (.tuple #[.int .u64 (Fs.full (KX i)), .int .i64 0]) ∧ Below w.heap.size w w' := by
  have a1 := h.lo0
  have a2 := h.lohi
  have a3 := h.hi59
  have a4 := h.len
  have := field_Full w lo hi A c l week (by omega) (by omega) (by omega) (by omega) (by omega) h.cap h.names h.shorts
  rw [Fs.fullB, if_pos (h.ok hi6), ← h.kd] at this
  exact this
theorem kx_Parse (h : KxAt w g i lo hi A c l week) (s : ByteArray) (hs : s.size ≤ 100000) (hT : Tabs w) :
    Calls Tryz.prog 33 #[.agg #[.int .i64 lo, .int .i64 hi, .slice A l.length c, .bool week], .string s] w fun e w' => e = .returned (retP (Fs.parse (KX i) s.data.toList)) ∧ Below w.heap.size w w' := by
  have a1 := h.lo0
  have a2 := h.lohi
  have a3 := h.hi59
  have a4 := h.len
  rw [h.kd]
  exact field_Parse s w lo hi A c l week (by omega) (by omega) (by omega) (by omega) hs (by omega) h.cap h.names h.shorts hT
theorem kx_Print (h : KxAt w g i lo hi A c l week) (s : Nat) (star : Bool) (hs : s < 18446744073709551616) (hT : Tabs w) :
    Calls Tryz.prog 50 #[.agg #[.int .i64 lo, .int .i64 hi, .slice A l.length c, .bool week], .int .u64 s, .bool star] w fun e w' => e = .returned (retPrint (Fs.printB (KX i) s star)) ∧ Below w.heap.size w w' := by
  have a1 := h.lo0
  have a2 := h.lohi
  have a3 := h.hi59
  have a4 := h.len
  rw [h.kd]
  exact field_Print w lo hi A c l week s star (by omega) (by omega) (by omega) (by omega) (by omega) h.cap h.names h.shorts hs hT
end

theorem bits_In (a b : Nat) (w : World) (ha : a < 18446744073709551616) (hb : b < 18446744073709551616) : Calls Tryz.prog 55 #[.int .u64 a, .int .u64 b] w fun e w' => e = .returned (.bool (decide (a &&& b = a))) ∧ w = w' := by
  have := bits_Inside a b w ha hb
  rw [show decide (a &&& (18446744073709551615 - b) = 0) = decide (a &&& b = a) from decide_eq_decide.2 (inside_iff a b ha hb)] at this
  exact this
theorem kx_lt (i : Nat) (hi : i < 6) : Fs.full (KX i) < 18446744073709551616 := Fs.full_lt (kinds_ok.ok i hi)

set_option maxHeartbeats 1000000 in
theorem expr_full (i : Nat) (hi6 : i < 6) (w : World) (hT : Tabs w) : Calls Tryz.prog 49 #[.int .i64 i] w fun e w' => e = .returned (.int .u64 (Fs.full (KX i))) ∧ Below w.heap.size w w' := by
  have HT := Lib.hid hT; clear hT
  have hF := fun W g lo hi A c l week (h : KxAt W g i lo hi A c l week) => kx_Full h hi6
  have HF := Lib.hid hF; clear hF
  generalize Fs.full (KX i) = fu at HF
  go_enter Tryz.func49, Tryz.ntmps49
  go_wp2_with (first
    | (go_at_call 32; (with_reducible refine (field_Six _ HT.out).mono ?_); rintro e w1 ⟨g, m, d, rfl, hb1, h6, hm, hd⟩
       obtain ⟨lo, hi, A, c, l, week, hk⟩ := h6.kx i hi6
       have B1 := Lib.hid hb1; have K1 := Lib.hid hk; have hg := h6.lt; have c0 := hk.c0; have c1 := hk.c1; have c2 := hk.c2; have c3 := hk.c3; clear hb1 h6 hk hm hd)
    | (go_at_call 81; (with_reducible refine (HF.out _ _ _ _ _ _ _ _ K1.out).mono ?_); rintro e w2 ⟨rfl, hb2⟩))
  go_ret
  exact ⟨rfl, B1.out.trans (hb2.mono B1.out.size)⟩
end Go.Proofs.YtjnlgaeedcklaaaGreatDoor
