/-
  six, whole; and what the laws ask of the six kinds.
-/
import Derived.Test.YtfhcnndleaoobaaGreatDoorFSixLaw
import Derived.Test.YtfhcnndleaoobaaGreatDoorFBack
set_option linter.unusedVariables false
set_option linter.unusedSimpArgs false
namespace Go.Proofs.YtfhcnndleaoobaaGreatDoor
open Go.RowKit

theorem six_ok (n : Nat) (hn : n < 256) : ∃ lo hi l week, SixK (n % 6) lo hi l week ∧ ∀ w, Tabs w → Calls Tryz.prog 32 #[.int .u8 n] w fun e w' => ∃ A c,
    e = .returned (.tuple #[.agg #[.int .i64 lo, .int .i64 hi, .slice A l.length c, .bool week], .int .u64 (Fs.full (kind lo hi l week)), .bool true]) ∧ Below w.heap.size w w' ∧ KindAt w' (n % 6) lo hi A c l week := by
  have h6 : n % 6 < 6 := Nat.mod_lt _ (by decide)
  rcases (by omega : n % 6 = 0 ∨ n % 6 = 1 ∨ n % 6 = 2 ∨ n % 6 = 3 ∨ n % 6 = 4 ∨ n % 6 = 5) with h | h | h | h | h | h
  · refine ⟨0, 59, [], false, by simp [SixK, h], fun w hT => (six_0 n w hn hT h).mono ?_⟩
    rintro e w' ⟨m, d, rfl, hb, hk⟩; exact ⟨none, 0, by rw [full_0_eq]; rfl, hb, by rw [h]; exact hk⟩
  · refine ⟨0, 59, [], false, by simp [SixK, h], fun w hT => (six_1 n w hn hT h).mono ?_⟩
    rintro e w' ⟨m, d, rfl, hb, hk⟩; exact ⟨none, 0, by rw [full_1_eq]; rfl, hb, by rw [h]; exact hk⟩
  · refine ⟨0, 23, [], false, by simp [SixK, h], fun w hT => (six_2 n w hn hT h).mono ?_⟩
    rintro e w' ⟨m, d, rfl, hb, hk⟩; exact ⟨none, 0, by rw [full_2_eq]; rfl, hb, by rw [h]; exact hk⟩
  · refine ⟨1, 31, [], false, by simp [SixK, h], fun w hT => (six_3 n w hn hT h).mono ?_⟩
    rintro e w' ⟨m, d, rfl, hb, hk⟩; exact ⟨none, 0, by rw [full_3_eq]; rfl, hb, by rw [h]; exact hk⟩
  · refine ⟨1, 12, monthsB, false, by simp [SixK, h], fun w hT => (six_4 n w hn hT h).mono ?_⟩
    rintro e w' ⟨m, d, rfl, hb, hk⟩; exact ⟨some ⟨m, 0, none⟩, 12, by rw [full_4_eq]; rfl, hb, by rw [h]; exact hk⟩
  · refine ⟨0, 6, daysB, true, by simp [SixK, h], fun w hT => (six_5 n w hn hT h).mono ?_⟩
    rintro e w' ⟨m, d, rfl, hb, hk⟩; exact ⟨some ⟨d, 0, none⟩, 7, by rw [full_5_eq]; rfl, hb, by rw [h]; exact hk⟩

theorem SixK.star {i : Nat} {lo hi : Int} {l : List ByteArray} {week : Bool} (h : SixK i lo hi l week) :
    Fs.parse (kind lo hi l week) [42] = (Fs.full (kind lo hi l week), true, 0, 0) ∧ Fs.printB (kind lo hi l week) (Fs.full (kind lo hi l week)) true = ([42], 0) := by
  rcases h with ⟨rfl, rfl, rfl, rfl, rfl⟩ | ⟨rfl, rfl, rfl, rfl, rfl⟩ | ⟨rfl, rfl, rfl, rfl, rfl⟩ | ⟨rfl, rfl, rfl, rfl, rfl⟩ | ⟨rfl, rfl, rfl, rfl, rfl⟩ | ⟨rfl, rfl, rfl, rfl, rfl⟩ <;>
  exact ⟨by decide +kernel, by decide +kernel⟩

section
variable {i : Nat} {lo hi : Int} {A : Option Addr} {c : Nat} {l : List ByteArray} {week : Bool}
theorem kd_Parse {w : World} (h : KindAt w i lo hi A c l week) (hT : Tabs w) (s : ByteArray) (hs : s.size ≤ 100000) :
    Calls Tryz.prog 15 #[.agg #[.int .i64 lo, .int .i64 hi, .slice A l.length c, .bool week], .string s] w fun e w' => e = .returned (retP (Fs.parse (kind lo hi l week) s.data.toList)) ∧ Below w.heap.size w w' := by
  obtain ⟨f1, f2, f3, f4, f5, f6, f7, f8⟩ := h.six.facts
  exact field_Parse s w lo hi A c l week (by omega) (by omega) (by omega) (by omega) hs (by omega) h.cap h.names (fun s hs => Nat.le_trans (f6 s hs) (by decide)) hT
theorem kd_Print {w : World} (h : KindAt w i lo hi A c l week) (hT : Tabs w) (s : Nat) (star : Bool) (hs : s < 18446744073709551616) :
    Calls Tryz.prog 22 #[.agg #[.int .i64 lo, .int .i64 hi, .slice A l.length c, .bool week], .int .u64 s, .bool star] w fun e w' => e = .returned (retPrint (Fs.printB (kind lo hi l week) s star)) ∧ Below w.heap.size w w' := by
  obtain ⟨f1, f2, f3, f4, f5, f6, f7, f8⟩ := h.six.facts
  exact field_Print w lo hi A c l week s star (by omega) (by omega) (by omega) (by omega) (by omega) h.cap h.names (fun s hs => Nat.le_trans (f6 s hs) (by decide)) hs hT
theorem kd_Normal {w : World} (h : KindAt w i lo hi A c l week) (hT : Tabs w) (s : ByteArray) (hs : s.size ≤ 100000) (hset : (Fs.parse (kind lo hi l week) s.data.toList).1 < 18446744073709551616) :
    Calls Tryz.prog 19 #[.agg #[.int .i64 lo, .int .i64 hi, .slice A l.length c, .bool week], .string s] w fun e w' => e = .returned (retNormal (Fs.normalB (kind lo hi l week) s.data.toList)) ∧ Below w.heap.size w w' := by
  obtain ⟨f1, f2, f3, f4, f5, f6, f7, f8⟩ := h.six.facts
  exact field_Normal s w lo hi A c l week (by omega) (by omega) (by omega) (by omega) hs (by omega) h.cap h.names (fun s hs => Nat.le_trans (f6 s hs) (by decide)) hT hset
theorem kd_Name {w : World} (h : KindAt w i lo hi A c l week) (v : Int) :
    Calls Tryz.prog 28 #[.agg #[.int .i64 lo, .int .i64 hi, .slice A l.length c, .bool week], .int .i64 v] w fun e w' => e = .returned (retPrint (Fs.nameB (kind lo hi l week) v)) ∧ Below w.heap.size w w' := by
  obtain ⟨f1, f2, f3, f4, f5, f6, f7, f8⟩ := h.six.facts
  exact field_Name w lo hi A c l week v (by omega) (by omega) (by omega) (by omega) (by omega) h.cap h.names (fun s hs => Nat.le_trans (f6 s hs) (by decide))
theorem KindAt.alloc {w : World} (h : KindAt w i lo hi A c l week) (o : Obj) : KindAt (w.alloc o) i lo hi A c l week := h.grow ((Below.refl _ _).alloc (Nat.le_refl _) _)
end

theorem u8_nat {a : Int} (h : (Lit.int .u8 a).wf = true) : ∃ n : Nat, a = n ∧ n < 256 := by
  have : 0 ≤ a ∧ a ≤ 255 := by simpa [Lit.wf, IntKind.min, IntKind.max, IntKind.signed, IntKind.bits] using h
  exact ⟨a.toNat, by omega, by omega⟩
theorem u64_nat {a : Int} (h : (Lit.int .u64 a).wf = true) : ∃ n : Nat, a = n ∧ n < 18446744073709551616 := by
  have : 0 ≤ a ∧ a ≤ 18446744073709551615 := by simpa [Lit.wf, IntKind.min, IntKind.max, IntKind.signed, IntKind.bits] using h
  exact ⟨a.toNat, by omega, by omega⟩
end Go.Proofs.YtfhcnndleaoobaaGreatDoor
