/-
  The six kinds, in both texts.
  The six kinds as they lie in memory; the examples of the chapter.
  The examples of the chapter: works.
-/
import Derived.Test.YtfhcnndleaoobaaGreatDoorFNormP
set_option linter.unusedVariables false
set_option linter.unusedSimpArgs false
namespace Go.Proofs.YtfhcnndleaoobaaGreatDoor
open Go.RowKit

def monthsB : List ByteArray := [⟨#[74, 65, 78]⟩, ⟨#[70, 69, 66]⟩, ⟨#[77, 65, 82]⟩, ⟨#[65, 80, 82]⟩, ⟨#[77, 65, 89]⟩, ⟨#[74, 85, 78]⟩, ⟨#[74, 85, 76]⟩, ⟨#[65, 85, 71]⟩, ⟨#[83, 69, 80]⟩, ⟨#[79, 67, 84]⟩, ⟨#[78, 79, 86]⟩, ⟨#[68, 69, 67]⟩]
def daysB : List ByteArray := [⟨#[83, 85, 78]⟩, ⟨#[77, 79, 78]⟩, ⟨#[84, 85, 69]⟩, ⟨#[87, 69, 68]⟩, ⟨#[84, 72, 85]⟩, ⟨#[70, 82, 73]⟩, ⟨#[83, 65, 84]⟩]

/-- The cells of the six kinds, the names in the blocks m and d. -/
def specCells (m d : Nat) : Array Value := #[.int .i64 0, .int .i64 59, .slice none 0 0, .bool false, .int .i64 0, .int .i64 59, .slice none 0 0, .bool false,
  .int .i64 0, .int .i64 23, .slice none 0 0, .bool false, .int .i64 1, .int .i64 31, .slice none 0 0, .bool false,
  .int .i64 1, .int .i64 12, .slice (some ⟨m, 0, none⟩) 12 12, .bool false, .int .i64 0, .int .i64 6, .slice (some ⟨d, 0, none⟩) 7 7, .bool true]

theorem months_fields0 : Lib.fields [74, 65, 78, 32, 70, 69, 66, 32, 77, 65, 82, 32, 65, 80, 82, 32, 77, 65, 89, 32, 74, 85, 78, 32, 74, 85, 76, 32, 65, 85, 71, 32, 83, 69, 80, 32, 79, 67, 84, 32, 78, 79, 86, 32, 68, 69, 67] = [[74, 65, 78], [70, 69, 66], [77, 65, 82], [65, 80, 82], [77, 65, 89], [74, 85, 78], [74, 85, 76], [65, 85, 71], [83, 69, 80], [79, 67, 84], [78, 79, 86], [68, 69, 67]] := by decide +kernel
theorem days_fields0 : Lib.fields [83, 85, 78, 32, 77, 79, 78, 32, 84, 85, 69, 32, 87, 69, 68, 32, 84, 72, 85, 32, 70, 82, 73, 32, 83, 65, 84] = [[83, 85, 78], [77, 79, 78], [84, 85, 69], [87, 69, 68], [84, 72, 85], [70, 82, 73], [83, 65, 84]] := by decide +kernel
theorem months_fields : ((Lib.fields [74, 65, 78, 32, 70, 69, 66, 32, 77, 65, 82, 32, 65, 80, 82, 32, 77, 65, 89, 32, 74, 85, 78, 32, 74, 85, 76, 32, 65, 85, 71, 32, 83, 69, 80, 32, 79, 67, 84, 32, 78, 79, 86, 32, 68, 69, 67]).map fun l => Value.string ⟨l.toArray⟩).toArray = (monthsB.map Value.string).toArray := by rw [months_fields0]; rfl
theorem days_fields : ((Lib.fields [83, 85, 78, 32, 77, 79, 78, 32, 84, 85, 69, 32, 87, 69, 68, 32, 84, 72, 85, 32, 70, 82, 73, 32, 83, 65, 84]).map fun l => Value.string ⟨l.toArray⟩).toArray = (daysB.map Value.string).toArray := by rw [days_fields0]; rfl

theorem months_call (w : World) (hT : Tabs w) : Calls Tryz.prog 51 #[.string { data := #[74, 65, 78, 32, 70, 69, 66, 32, 77, 65, 82, 32, 65, 80, 82, 32, 77, 65, 89, 32, 74, 85, 78, 32, 74, 85, 76, 32, 65, 85, 71, 32, 83, 69, 80, 32, 79, 67, 84, 32, 78, 79, 86, 32, 68, 69, 67] }] w fun e w' =>
    e = .returned (.slice (some ⟨w.heap.size, 0, none⟩) 12 12) ∧ w' = w.alloc (.cells (monthsB.map Value.string).toArray 9) := by
  refine (Tryz.strings_Fields _ w (by decide) (fun j b h => ?_) hT.space).mono ?_
  · have : b ∈ ([74, 65, 78, 32, 70, 69, 66, 32, 77, 65, 82, 32, 65, 80, 82, 32, 77, 65, 89, 32, 74, 85, 78, 32, 74, 85, 76, 32, 65, 85, 71, 32, 83, 69, 80, 32, 79, 67, 84, 32, 78, 79, 86, 32, 68, 69, 67] : List UInt8) := List.mem_of_getElem? h
    have hall : ([74, 65, 78, 32, 70, 69, 66, 32, 77, 65, 82, 32, 65, 80, 82, 32, 77, 65, 89, 32, 74, 85, 78, 32, 74, 85, 76, 32, 65, 85, 71, 32, 83, 69, 80, 32, 79, 67, 84, 32, 78, 79, 86, 32, 68, 69, 67] : List UInt8).all (fun b => decide (b.toNat < 128)) = true := by decide +kernel
    simpa using List.all_eq_true.1 hall b this
  · rintro e w' ⟨rfl, rfl⟩
    exact ⟨by simp only [months_fields0]; rfl, by rw [months_fields]⟩
theorem days_call (w : World) (hT : Tabs w) : Calls Tryz.prog 51 #[.string { data := #[83, 85, 78, 32, 77, 79, 78, 32, 84, 85, 69, 32, 87, 69, 68, 32, 84, 72, 85, 32, 70, 82, 73, 32, 83, 65, 84] }] w fun e w' =>
    e = .returned (.slice (some ⟨w.heap.size, 0, none⟩) 7 7) ∧ w' = w.alloc (.cells (daysB.map Value.string).toArray 9) := by
  refine (Tryz.strings_Fields _ w (by decide) (fun j b h => ?_) hT.space).mono ?_
  · have : b ∈ ([83, 85, 78, 32, 77, 79, 78, 32, 84, 85, 69, 32, 87, 69, 68, 32, 84, 72, 85, 32, 70, 82, 73, 32, 83, 65, 84] : List UInt8) := List.mem_of_getElem? h
    have hall : ([83, 85, 78, 32, 77, 79, 78, 32, 84, 85, 69, 32, 87, 69, 68, 32, 84, 72, 85, 32, 70, 82, 73, 32, 83, 65, 84] : List UInt8).all (fun b => decide (b.toNat < 128)) = true := by decide +kernel
    simpa using List.all_eq_true.1 hall b this
  · rintro e w' ⟨rfl, rfl⟩
    exact ⟨by simp only [days_fields0]; rfl, by rw [days_fields]⟩

set_option maxHeartbeats 2000000 in
theorem field_Specs (w : World) (hT : Tabs w) : Calls Tryz.prog 30 #[] w fun e w' =>
    e = .returned (.slice (some ⟨w.heap.size + 2, 0, none⟩) 6 6) ∧ w' = ((w.alloc (.cells (monthsB.map Value.string).toArray 9)).alloc (.cells (daysB.map Value.string).toArray 9)).alloc (.cells (specCells w.heap.size (w.heap.size + 1)) 30) := by
  have HT := Lib.hid hT; clear hT
  go_enter Tryz.func30, Tryz.ntmps30
  go_wp2_with (first
    | (go_at_call 51; (with_reducible refine (months_call _ HT.out).mono ?_); rintro e w1 ⟨rfl, rfl⟩)
    | (go_at_call 51; (with_reducible refine (days_call _ (HT.out.alloc _)).mono ?_); rintro e w2 ⟨rfl, rfl⟩))
  go_ret
  exact ⟨rfl, rfl⟩
end Go.Proofs.YtfhcnndleaoobaaGreatDoor

namespace Go.Proofs.YtfhcnndleaoobaaGreatDoor
open Go.RowKit

/-- The six kinds lie in the block g. -/
structure SixAt (w : World) (g m d : Nat) : Prop where
  lt : g < w.heap.size
  cells : ∀ j u, (specCells m d)[j]? = some u → w.cell? ⟨g, j, none⟩ = some u
  months : Names w w.heap.size (some ⟨m, 0, none⟩) monthsB
  days : Names w w.heap.size (some ⟨d, 0, none⟩) daysB

theorem SixAt.grow {w w' : World} {g m d : Nat} (h : SixAt w g m d) (hb : Below w.heap.size w w') : SixAt w' g m d :=
  ⟨Nat.lt_of_lt_of_le h.lt hb.size, fun j u hu => (hb.cell (p := ⟨g, j, none⟩) h.lt).trans (h.cells j u hu), h.months.below hb hb.size, h.days.below hb hb.size⟩
theorem SixAt.facts {w : World} {g m d : Nat} (h : SixAt w g m d) : g < w.heap.size ∧
    w.cell? ⟨g, 4, none⟩ = some (.int .i64 0) ∧
    w.cell? ⟨g, 5, none⟩ = some (.int .i64 59) ∧
    w.cell? ⟨g, 6, none⟩ = some (.slice none 0 0) ∧
    w.cell? ⟨g, 7, none⟩ = some (.bool false) ∧
    w.cell? ⟨g, 16, none⟩ = some (.int .i64 1) ∧
    w.cell? ⟨g, 17, none⟩ = some (.int .i64 12) ∧
    w.cell? ⟨g, 18, none⟩ = some (.slice (some ⟨m, 0, none⟩) 12 12) ∧
    w.cell? ⟨g, 19, none⟩ = some (.bool false) ∧
    w.cell? ⟨g, 20, none⟩ = some (.int .i64 0) ∧
    w.cell? ⟨g, 21, none⟩ = some (.int .i64 6) ∧
    w.cell? ⟨g, 22, none⟩ = some (.slice (some ⟨d, 0, none⟩) 7 7) ∧
    w.cell? ⟨g, 23, none⟩ = some (.bool true) :=
  ⟨h.lt, h.cells 4 _ rfl, h.cells 5 _ rfl, h.cells 6 _ rfl, h.cells 7 _ rfl, h.cells 16 _ rfl, h.cells 17 _ rfl, h.cells 18 _ rfl, h.cells 19 _ rfl, h.cells 20 _ rfl, h.cells 21 _ rfl, h.cells 22 _ rfl, h.cells 23 _ rfl⟩

theorem names_of_cells {w : World} {b : Nat} {t : TypeId} {l : List ByteArray} (hb : b < w.heap.size) (h : ∀ j, j < l.length → w.cell? ⟨b, j, none⟩ = some (.string (l.getD j ByteArray.empty))) : Names w w.heap.size (some ⟨b, 0, none⟩) l :=
  .inr ⟨b, 0, rfl, hb, fun j hj => by rw [Nat.zero_add]; exact h j hj⟩

theorem six_laid (w : World) (t : TypeId) : SixAt (((w.alloc (.cells (monthsB.map Value.string).toArray 9)).alloc (.cells (daysB.map Value.string).toArray 9)).alloc (.cells (specCells w.heap.size (w.heap.size + 1)) t)) (w.heap.size + 2) w.heap.size (w.heap.size + 1) := by
  refine ⟨by simp <;> omega, fun j u hu => ?_, ?_, ?_⟩
  · rw [World.cell?_alloc_at _ _ _ _ (by simp <;> omega)]; exact hu
  · refine .inr ⟨_, 0, rfl, by simp <;> omega, fun j hj => ?_⟩
    rw [Nat.zero_add, World.cell?_alloc_past _ _ _ (by simp <;> omega), World.cell?_alloc_past _ _ _ (by simp <;> omega), World.cell?_alloc_at _ _ _ _ (by simp <;> omega)]
    simp only [monthsB, List.length_cons, List.length_nil] at hj
    simp only [List.getElem?_toArray, List.getElem?_map, List.getD]
    rw [List.getElem?_eq_getElem (by simp [monthsB]; omega)]; rfl
  · refine .inr ⟨_, 0, rfl, by simp <;> omega, fun j hj => ?_⟩
    rw [Nat.zero_add, World.cell?_alloc_past _ _ _ (by simp <;> omega)]
    rw [World.cell?_alloc_at _ _ _ _ (by simp <;> omega)]
    simp only [daysB, List.length_cons, List.length_nil] at hj
    simp only [List.getElem?_toArray, List.getElem?_map, List.getD]
    rw [List.getElem?_eq_getElem (by simp [daysB]; omega)]; rfl
end Go.Proofs.YtfhcnndleaoobaaGreatDoor

namespace Go.Proofs.YtfhcnndleaoobaaGreatDoor
open Go.RowKit

theorem field_Six (w : World) (hT : Tabs w) : Calls Tryz.prog 30 #[] w fun e w' =>
    ∃ g m d, e = .returned (.slice (some ⟨g, 0, none⟩) 6 6) ∧ Below w.heap.size w w' ∧ SixAt w' g m d ∧ w.heap.size ≤ m ∧ w.heap.size ≤ d := by
  refine (field_Specs w hT).mono ?_
  rintro e w' ⟨rfl, rfl⟩
  exact ⟨_, _, _, rfl, (((Below.refl _ _).alloc (Nat.le_refl _) _).alloc (by simp) _).alloc (by simp <;> omega) _, six_laid w _, Nat.le_refl _, Nat.le_succ _⟩

def minB : Fs.Kind := kind 0 59 [] false
def dayB : Fs.Kind := kind 0 6 daysB true
def monB : Fs.Kind := kind 1 12 monthsB false

theorem names_none (w : World) (B : Nat) : Names w B none [] := .inl rfl

theorem min_Parse (s : ByteArray) (hs : s.size ≤ 100000) (w : World) (hT : Tabs w) : Calls Tryz.prog 15 #[.agg #[.int .i64 0, .int .i64 59, .slice none 0 0, .bool false], .string s] w fun e w' =>
    e = .returned (retP (Fs.parse minB s.data.toList)) ∧ Below w.heap.size w w' :=
  field_Parse s w 0 59 none 0 [] false (by decide) (by decide) (by decide) (by decide) hs (by decide) (by decide) (names_none _ _) (by simp) hT
theorem days_short : ∀ s ∈ daysB, s.size ≤ 1000 := by decide
theorem months_short : ∀ s ∈ monthsB, s.size ≤ 1000 := by decide
theorem day_Parse (s : ByteArray) (hs : s.size ≤ 100000) (w : World) (hT : Tabs w) {g m d : Nat} (h : SixAt w g m d) : Calls Tryz.prog 15 #[.agg #[.int .i64 0, .int .i64 6, .slice (some ⟨d, 0, none⟩) 7 7, .bool true], .string s] w fun e w' =>
    e = .returned (retP (Fs.parse dayB s.data.toList)) ∧ Below w.heap.size w w' :=
  field_Parse s w 0 6 _ 7 daysB true (by decide) (by decide) (by decide) (by decide) hs (by decide) (by decide) h.days days_short hT

theorem ex1 : Fs.parse minB [48, 44, 53, 45, 55] = (225, false, 0, 0) := by decide +kernel
theorem ex2 : Fs.parse dayB [53, 45, 55] = (97, false, 0, 0) := by decide +kernel
theorem ex3 : Fs.parse minB [57, 57, 44, 120] = (0, false, 3, 10) := by decide +kernel
theorem ex4 : Fs.parse minB [49, 44, 55, 45, 53] = (0, false, 2, 2) := by decide +kernel
theorem ex5 : Fs.normalB dayB [102, 114, 105, 45, 55, 44, 77, 79, 78] = ([48, 45, 49, 44, 53, 45, 54], 0, 0) := by decide +kernel
theorem ex6 : Fs.printB minB 35185445863425 false = ([48, 45, 52, 53, 47, 49, 53], 0) := by decide +kernel
theorem ex7 : Fs.nameB monB 2 = ([70, 69, 66], 0) := by decide +kernel

theorem ex5s : (Fs.parse dayB [102, 114, 105, 45, 55, 44, 77, 79, 78]).1 < 18446744073709551616 := by decide +kernel

theorem wk1 (w : World) (hT : Tabs w) : Calls Tryz.prog 15 #[.agg #[.int .i64 0, .int .i64 59, .slice none 0 0, .bool false], .string { data := #[48, 44, 53, 45, 55] }] w fun e w' =>
    e = .returned (.tuple #[.int .u64 225, .bool false, .int .i64 0, .int .i64 0]) ∧ Below w.heap.size w w' := by
  have h := min_Parse { data := #[48, 44, 53, 45, 55] } (by decide) w hT
  rw [show Fs.parse minB ({ data := #[48, 44, 53, 45, 55] } : ByteArray).data.toList = _ from ex1] at h; exact h
theorem wk3 (w : World) (hT : Tabs w) : Calls Tryz.prog 15 #[.agg #[.int .i64 0, .int .i64 59, .slice none 0 0, .bool false], .string { data := #[57, 57, 44, 120] }] w fun e w' =>
    e = .returned (.tuple #[.int .u64 0, .bool false, .int .i64 3, .int .i64 10]) ∧ Below w.heap.size w w' := by
  have h := min_Parse { data := #[57, 57, 44, 120] } (by decide) w hT
  rw [show Fs.parse minB ({ data := #[57, 57, 44, 120] } : ByteArray).data.toList = _ from ex3] at h; exact h
theorem wk4 (w : World) (hT : Tabs w) : Calls Tryz.prog 15 #[.agg #[.int .i64 0, .int .i64 59, .slice none 0 0, .bool false], .string { data := #[49, 44, 55, 45, 53] }] w fun e w' =>
    e = .returned (.tuple #[.int .u64 0, .bool false, .int .i64 2, .int .i64 2]) ∧ Below w.heap.size w w' := by
  have h := min_Parse { data := #[49, 44, 55, 45, 53] } (by decide) w hT
  rw [show Fs.parse minB ({ data := #[49, 44, 55, 45, 53] } : ByteArray).data.toList = _ from ex4] at h; exact h
theorem wk2 (w : World) (hT : Tabs w) {g m d : Nat} (h6 : SixAt w g m d) : Calls Tryz.prog 15 #[.agg #[.int .i64 0, .int .i64 6, .slice (some ⟨d, 0, none⟩) 7 7, .bool true], .string { data := #[53, 45, 55] }] w fun e w' =>
    e = .returned (.tuple #[.int .u64 97, .bool false, .int .i64 0, .int .i64 0]) ∧ Below w.heap.size w w' := by
  have h := day_Parse { data := #[53, 45, 55] } (by decide) w hT h6
  rw [show Fs.parse dayB ({ data := #[53, 45, 55] } : ByteArray).data.toList = _ from ex2] at h; exact h
theorem wk5 (w : World) (hT : Tabs w) {g m d : Nat} (h6 : SixAt w g m d) : Calls Tryz.prog 19 #[.agg #[.int .i64 0, .int .i64 6, .slice (some ⟨d, 0, none⟩) 7 7, .bool true], .string { data := #[102, 114, 105, 45, 55, 44, 77, 79, 78] }] w fun e w' =>
    e = .returned (.tuple #[.string { data := #[48, 45, 49, 44, 53, 45, 54] }, .int .i64 0, .int .i64 0]) ∧ Below w.heap.size w w' := by
  have h := field_Normal { data := #[102, 114, 105, 45, 55, 44, 77, 79, 78] } w 0 6 _ 7 daysB true (by decide) (by decide) (by decide) (by decide) (by decide) (by decide) (by decide) h6.days days_short hT ex5s
  rw [show Fs.normalB (kind 0 6 daysB true) ({ data := #[102, 114, 105, 45, 55, 44, 77, 79, 78] } : ByteArray).data.toList = _ from ex5] at h; exact h
theorem wk6 (w : World) (hT : Tabs w) : Calls Tryz.prog 22 #[.agg #[.int .i64 0, .int .i64 59, .slice none 0 0, .bool false], .int .u64 35185445863425, .bool false] w fun e w' =>
    e = .returned (.tuple #[.string { data := #[48, 45, 52, 53, 47, 49, 53] }, .int .i64 0]) ∧ Below w.heap.size w w' := by
  have h := field_Print w 0 59 none 0 [] false 35185445863425 false (by decide) (by decide) (by decide) (by decide) (by decide) (by decide) (names_none _ _) (by simp) (by decide) hT
  rw [show Fs.printB (kind 0 59 [] false) 35185445863425 false = _ from ex6] at h; exact h
theorem wk7 (w : World) {g m d : Nat} (h6 : SixAt w g m d) : Calls Tryz.prog 28 #[.agg #[.int .i64 1, .int .i64 12, .slice (some ⟨m, 0, none⟩) 12 12, .bool false], .int .i64 2] w fun e w' =>
    e = .returned (.tuple #[.string { data := #[70, 69, 66] }, .int .i64 0]) ∧ Below w.heap.size w w' := by
  have h := field_Name w 1 12 _ 12 monthsB false 2 (by decide) (by decide) (by decide) (by decide) (by decide) (by decide) h6.months months_short
  rw [show Fs.nameB (kind 1 12 monthsB false) 2 = _ from ex7] at h; exact h

set_option maxRecDepth 100000 in
set_option maxHeartbeats 2000000 in
theorem works_true (w : World) (hT : Tabs w) : Calls Tryz.prog 14 #[] w fun e w' => e = .returned (.bool true) ∧ Below w.heap.size w w' := by
  have HT := Lib.hid hT; clear hT
  go_enter Tryz.func14, Tryz.ntmps14
  go_wp2_with (first
    | (go_at_call 30; (with_reducible refine (field_Six _ HT.out).mono ?_); rintro e w1 ⟨g, m, d, rfl, hb1, h6, -, -⟩
       have B1 := Lib.hid hb1; have S1 := Lib.hid h6; have T1 := Lib.hid (HT.out.grow hb1); obtain ⟨hg, c4, c5, c6, c7, c16, c17, c18, c19, c20, c21, c22, c23⟩ := h6.facts; clear hb1 h6)
    | (go_at_call 15; (with_reducible refine (wk1 _ T1.out).mono ?_); rintro e w2 ⟨rfl, hb2⟩
       have B2 := Lib.hid (B1.out.trans (hb2.mono B1.out.size)); have S2 := Lib.hid (S1.out.grow hb2); have T2 := Lib.hid (T1.out.grow hb2); obtain ⟨hg, c4, c5, c6, c7, c16, c17, c18, c19, c20, c21, c22, c23⟩ := S2.out.facts; clear hb2)
    | (go_at_call 15; (with_reducible refine (wk2 _ T2.out S2.out).mono ?_); rintro e w3 ⟨rfl, hb2⟩
       have B3 := Lib.hid (B2.out.trans (hb2.mono B2.out.size)); have S3 := Lib.hid (S2.out.grow hb2); have T3 := Lib.hid (T2.out.grow hb2); obtain ⟨hg, c4, c5, c6, c7, c16, c17, c18, c19, c20, c21, c22, c23⟩ := S3.out.facts; clear hb2)
    | (go_at_call 15; (with_reducible refine (wk3 _ T3.out).mono ?_); rintro e w4 ⟨rfl, hb2⟩
       have B4 := Lib.hid (B3.out.trans (hb2.mono B3.out.size)); have S4 := Lib.hid (S3.out.grow hb2); have T4 := Lib.hid (T3.out.grow hb2); obtain ⟨hg, c4, c5, c6, c7, c16, c17, c18, c19, c20, c21, c22, c23⟩ := S4.out.facts; clear hb2)
    | (go_at_call 15; (with_reducible refine (wk4 _ T4.out).mono ?_); rintro e w5 ⟨rfl, hb2⟩
       have B5 := Lib.hid (B4.out.trans (hb2.mono B4.out.size)); have S5 := Lib.hid (S4.out.grow hb2); have T5 := Lib.hid (T4.out.grow hb2); obtain ⟨hg, c4, c5, c6, c7, c16, c17, c18, c19, c20, c21, c22, c23⟩ := S5.out.facts; clear hb2)
    | (go_at_call 19; (with_reducible refine (wk5 _ T5.out S5.out).mono ?_); rintro e w6 ⟨rfl, hb2⟩
       have B6 := Lib.hid (B5.out.trans (hb2.mono B5.out.size)); have S6 := Lib.hid (S5.out.grow hb2); have T6 := Lib.hid (T5.out.grow hb2); obtain ⟨hg, c4, c5, c6, c7, c16, c17, c18, c19, c20, c21, c22, c23⟩ := S6.out.facts; clear hb2)
    | (go_at_call 22; (with_reducible refine (wk6 _ T6.out).mono ?_); rintro e w7 ⟨rfl, hb2⟩
       have B7 := Lib.hid (B6.out.trans (hb2.mono B6.out.size)); have S7 := Lib.hid (S6.out.grow hb2); have T7 := Lib.hid (T6.out.grow hb2); obtain ⟨hg, c4, c5, c6, c7, c16, c17, c18, c19, c20, c21, c22, c23⟩ := S7.out.facts; clear hb2)
    | (go_at_call 28; (with_reducible refine (wk7 _ S7.out).mono ?_); rintro e w8 ⟨rfl, hb2⟩
       have B8 := Lib.hid (B7.out.trans (hb2.mono B7.out.size)); clear hb2))
  go_ret
  exact ⟨rfl, B8.out⟩
end Go.Proofs.YtfhcnndleaoobaaGreatDoor
