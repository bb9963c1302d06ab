/-
  The document's text on expressions, the leaves: the least and the greatest numbers, full sets, how many numbers a set has, an expression's fields, the text of a macro.
-/
import Derived.Test.YtjnlgaeedcklaaaGreatDoorFBits
import Derived.Test.YtjnlgaeedcklaaaGreatDoorXPlain4
set_option linter.unusedVariables false
set_option linter.unusedSimpArgs false
namespace Go.Proofs.YtjnlgaeedcklaaaGreatDoor
open Go.RowKit

def lowX (i : Nat) : Nat := [0, 0, 0, 1, 1, 0].getD i 0
def highX (i : Nat) : Nat := [59, 59, 23, 31, 12, 6].getD i 0
theorem six6 {p : Nat → Prop} (h0 : p 0) (h1 : p 1) (h2 : p 2) (h3 : p 3) (h4 : p 4) (h5 : p 5) : ∀ i, i < 6 → p i := by
  intro i hi
  rcases (by omega : i = 0 ∨ i = 1 ∨ i = 2 ∨ i = 3 ∨ i = 4 ∨ i = 5) with rfl | rfl | rfl | rfl | rfl | rfl <;> assumption

theorem low_cell (w : World) (t : TypeId) : ∀ i, i < 6 → (w.alloc (.cells #[.int .i64 0, .int .i64 0, .int .i64 0, .int .i64 1, .int .i64 1, .int .i64 0] t)).cell? ⟨w.heap.size, i, none⟩ = some (.int .i64 (lowX i)) := by
  refine six6 ?_ ?_ ?_ ?_ ?_ ?_ <;> (rw [World.cell?_alloc_at _ _ _ _ rfl]; rfl)
theorem high_cell (w : World) (t : TypeId) : ∀ i, i < 6 → (w.alloc (.cells #[.int .i64 59, .int .i64 59, .int .i64 23, .int .i64 31, .int .i64 12, .int .i64 6] t)).cell? ⟨w.heap.size, i, none⟩ = some (.int .i64 (highX i)) := by
  refine six6 ?_ ?_ ?_ ?_ ?_ ?_ <;> (rw [World.cell?_alloc_at _ _ _ _ rfl]; rfl)

theorem ref7_Low (i : Nat) (hi : i < 6) (w : World) : Calls Tryz.prog 84 #[.int .i64 i] w fun e w' => e = .returned (.int .i64 (lowX i)) ∧ Below w.heap.size w w' := by
  have hc := low_cell w 3 i hi
  go_enter Tryz.func84, Tryz.ntmps84
  go_wp2
  go_ret
  exact ⟨rfl, (Below.refl _ _).alloc (Nat.le_refl _) _⟩
theorem ref7_High (i : Nat) (hi : i < 6) (w : World) : Calls Tryz.prog 85 #[.int .i64 i] w fun e w' => e = .returned (.int .i64 (highX i)) ∧ Below w.heap.size w w' := by
  have hc := high_cell w 3 i hi
  go_enter Tryz.func85, Tryz.ntmps85
  go_wp2
  go_ret
  exact ⟨rfl, (Below.refl _ _).alloc (Nat.le_refl _) _⟩

theorem low_high : ∀ i, i < 6 → lowX i ≤ highX i ∧ highX i < 60 := six6 (by decide) (by decide) (by decide) (by decide) (by decide) (by decide)
theorem or_next {S v lo : Nat} (h : S + 2 ^ lo = 2 ^ v) : (S ||| 2 ^ v) + 2 ^ lo = 2 ^ (v + 1) := by
  have hp : 0 < 2 ^ lo := Nat.pos_of_ne_zero (by simp)
  have h1 := Nat.two_pow_add_eq_or_of_lt (show S < 2 ^ v by omega) 1
  rw [Nat.mul_one] at h1
  rw [Nat.or_comm, ← h1, Nat.pow_succ]
  omega

set_option maxHeartbeats 1000000 in
theorem ref7_full (i : Nat) (hi : i < 6) (w : World) : Calls Tryz.prog 52 #[.int .i64 i] w fun e w' => e = .returned (.int .u64 (2 ^ (highX i + 1) - 2 ^ lowX i : Nat)) ∧ Below w.heap.size w w' := by
  have HL : Hid (∀ W, Calls Tryz.prog 84 #[.int .i64 i] W fun e w' => e = .returned (.int .i64 (lowX i)) ∧ Below W.heap.size W w') := Lib.hid fun W => ref7_Low i hi W
  have HH : Hid (∀ W, Calls Tryz.prog 85 #[.int .i64 i] W fun e w' => e = .returned (.int .i64 (highX i)) ∧ Below W.heap.size W w') := Lib.hid fun W => ref7_High i hi W
  have hlh := low_high i hi
  generalize lowX i = lo at *
  generalize highX i = hh at *
  obtain ⟨h1, h2⟩ := hlh
  clear hi
  go_enter Tryz.func52, Tryz.ntmps52
  go_wp2_with (go_at_call 84; (with_reducible refine (HL.out _).mono ?_); rintro e w1 ⟨rfl, hb1⟩)
  have HB1 := Lib.hid hb1
  clear hb1
  go_loopw [3, 4] (fun s v wr => ∃ S V : Nat, s = .int .u64 S ∧ v = .int .i64 V ∧ lo ≤ V ∧ V ≤ hh + 1 ∧ S + 2 ^ lo = 2 ^ V ∧ Below w.heap.size w wr) (fun _ v _ => hh + 1 - (intOf v).toNat)
  case atStart => exact ⟨0, lo, rfl, rfl, Nat.le_refl _, by omega, by omega, HB1.out⟩
  case round =>
    obtain ⟨S, V, rfl, rfl, hv1, hv2, hS, hb⟩ := hrel
    have HB := Lib.hid hb
    have HS := Lib.hid hS
    clear hb hS
    by_cases hlt : V ≤ hh
    · have d1 : decide ((V : Int) ≤ (hh : Int)) = true := decide_eq_true (by omega)
      have d2 : decide (V ≤ hh) = true := decide_eq_true hlt
      have hs64 : S < 18446744073709551616 := by
        exact Nat.lt_of_le_of_lt (Nat.le_of_add_right_le (Nat.le_of_eq HS.out)) (pow_lt (by omega))
      have HN := Lib.hid (or_next HS.out)
      have HO := Lib.hid (or_bit S V hs64 (by omega))
      go_wp2_with (go_at_call 85; (with_reducible refine (HH.out _).mono ?_); rintro e w2 ⟨rfl, hb2⟩; have HB2 := Lib.hid (HB.out.trans (hb2.mono HB.out.size)); clear hb2)
      go_roundw
      case rel => exact ⟨S ||| 2 ^ V, V + 1, by rw [HO.out], by go_num, by omega, by omega, HN.out, HB2.out⟩
      case measure => simp [intOf]; omega
    · have d1 : decide ((V : Int) ≤ (hh : Int)) = false := decide_eq_false (by omega)
      have d2 : decide (V ≤ hh) = false := decide_eq_false hlt
      have HE : Hid (2 ^ (hh + 1) - 2 ^ lo = S) := Lib.hid (by rw [show hh + 1 = V by omega, ← HS.out, Nat.add_sub_cancel])
      go_wp2_with (go_at_call 85; (with_reducible refine (HH.out _).mono ?_); rintro e w2 ⟨rfl, hb2⟩; have HB2 := Lib.hid (HB.out.trans (hb2.mono HB.out.size)); clear hb2)
      go_ret
      exact ⟨by rw [HE.out]; rfl, HB2.out⟩

/-- A bit of a set. -/
theorem shr_and (x v : Nat) (hx : x < 18446744073709551616) : bits .and .u64 ((x : Int) / 2 ^ v) 1 = ((x / 2 ^ v % 2 : Nat) : Int) := by
  have h := u64_and_nat (x / 2 ^ v) 1 (Nat.lt_of_le_of_lt (Nat.div_le_self _ _) hx) (by omega)
  rw [Nat.and_one_is_mod] at h
  rw [← h]
  congr 1

set_option maxHeartbeats 1000000 in
theorem ref7_count (x : Nat) (w : World) (hx : x < 18446744073709551616) : Calls Tryz.prog 54 #[.int .u64 x] w fun e w' => e = .returned (.int .i64 (Xs.cnt 64 x)) ∧ w = w' := by
  go_enter Tryz.func54, Tryz.ntmps54
  go_wp2
  go_loop [3, 4] (fun n v => ∃ V : Nat, v = .int .i64 V ∧ n = .int .i64 (Xs.cnt V x) ∧ V ≤ 64) (fun _ v => 64 - (intOf v).toNat)
  case atStart => exact ⟨0, rfl, rfl, by omega⟩
  case round =>
    obtain ⟨V, rfl, rfl, hV⟩ := hrel
    by_cases hlt : V < 64
    · have h1 := Xs.cnt_step V x
      have h2 := Xs.cnt_le V x
      have h3 := shr_and x V hx
      have h4 : x / 2 ^ V % 2 < 2 := Nat.mod_lt _ (by decide)
      generalize x / 2 ^ V % 2 = b at *
      go_wp2
      go_round
      case rel =>
        exact ⟨V + 1, by go_num, by rw [h1]; simp, by omega⟩
      case measure => simp [intOf]; omega
    · obtain rfl : V = 64 := by omega
      go_wp2
      go_ret
      exact ⟨rfl, rfl⟩

theorem ba_beq {s : ByteArray} {l : List UInt8} (h : ¬ s.data.toList = l) : (s.toList == l) = false := by
  rw [beq_eq_false_iff_ne, ByteArray.toList_eq]
  exact h
theorem ba_mk {s : ByteArray} {l : List UInt8} (h : s.data.toList = l) : s = ⟨l.toArray⟩ := by
  cases s; simp at h; subst h; simp

set_option maxHeartbeats 4000000 in
theorem ref7_texts (s : ByteArray) (w : World) : Calls Tryz.prog 47 #[.string s] w fun e w' => e = .returned (.string ⟨((Xs.macroText s.data.toList).getD []).toArray⟩) ∧ w = w' := by
  by_cases h_yearly : s.data.toList = [64, 121, 101, 97, 114, 108, 121]
  · rw [ba_mk h_yearly, show (Xs.macroText (ByteArray.mk ([64, 121, 101, 97, 114, 108, 121] : List UInt8).toArray).data.toList).getD [] = [48, 32, 48, 32, 49, 32, 49, 32, 42] by decide +kernel]
    clear h_yearly
    go_enter Tryz.func47, Tryz.ntmps47
    go_wp2
    go_ret
    exact ⟨rfl, rfl⟩
  by_cases h_annually : s.data.toList = [64, 97, 110, 110, 117, 97, 108, 108, 121]
  · rw [ba_mk h_annually, show (Xs.macroText (ByteArray.mk ([64, 97, 110, 110, 117, 97, 108, 108, 121] : List UInt8).toArray).data.toList).getD [] = [48, 32, 48, 32, 49, 32, 49, 32, 42] by decide +kernel]
    clear h_annually
    go_enter Tryz.func47, Tryz.ntmps47
    go_wp2
    go_ret
    exact ⟨rfl, rfl⟩
  by_cases h_monthly : s.data.toList = [64, 109, 111, 110, 116, 104, 108, 121]
  · rw [ba_mk h_monthly, show (Xs.macroText (ByteArray.mk ([64, 109, 111, 110, 116, 104, 108, 121] : List UInt8).toArray).data.toList).getD [] = [48, 32, 48, 32, 49, 32, 42, 32, 42] by decide +kernel]
    clear h_monthly
    go_enter Tryz.func47, Tryz.ntmps47
    go_wp2
    go_ret
    exact ⟨rfl, rfl⟩
  by_cases h_weekly : s.data.toList = [64, 119, 101, 101, 107, 108, 121]
  · rw [ba_mk h_weekly, show (Xs.macroText (ByteArray.mk ([64, 119, 101, 101, 107, 108, 121] : List UInt8).toArray).data.toList).getD [] = [48, 32, 48, 32, 42, 32, 42, 32, 48] by decide +kernel]
    clear h_weekly
    go_enter Tryz.func47, Tryz.ntmps47
    go_wp2
    go_ret
    exact ⟨rfl, rfl⟩
  by_cases h_daily : s.data.toList = [64, 100, 97, 105, 108, 121]
  · rw [ba_mk h_daily, show (Xs.macroText (ByteArray.mk ([64, 100, 97, 105, 108, 121] : List UInt8).toArray).data.toList).getD [] = [48, 32, 48, 32, 42, 32, 42, 32, 42] by decide +kernel]
    clear h_daily
    go_enter Tryz.func47, Tryz.ntmps47
    go_wp2
    go_ret
    exact ⟨rfl, rfl⟩
  by_cases h_midnight : s.data.toList = [64, 109, 105, 100, 110, 105, 103, 104, 116]
  · rw [ba_mk h_midnight, show (Xs.macroText (ByteArray.mk ([64, 109, 105, 100, 110, 105, 103, 104, 116] : List UInt8).toArray).data.toList).getD [] = [48, 32, 48, 32, 42, 32, 42, 32, 42] by decide +kernel]
    clear h_midnight
    go_enter Tryz.func47, Tryz.ntmps47
    go_wp2
    go_ret
    exact ⟨rfl, rfl⟩
  by_cases h_hourly : s.data.toList = [64, 104, 111, 117, 114, 108, 121]
  · rw [ba_mk h_hourly, show (Xs.macroText (ByteArray.mk ([64, 104, 111, 117, 114, 108, 121] : List UInt8).toArray).data.toList).getD [] = [48, 32, 42, 32, 42, 32, 42, 32, 42] by decide +kernel]
    clear h_hourly
    go_enter Tryz.func47, Tryz.ntmps47
    go_wp2
    go_ret
    exact ⟨rfl, rfl⟩
  by_cases h_minutely : s.data.toList = [64, 109, 105, 110, 117, 116, 101, 108, 121]
  · rw [ba_mk h_minutely, show (Xs.macroText (ByteArray.mk ([64, 109, 105, 110, 117, 116, 101, 108, 121] : List UInt8).toArray).data.toList).getD [] = [42, 32, 42, 32, 42, 32, 42, 32, 42] by decide +kernel]
    clear h_minutely
    go_enter Tryz.func47, Tryz.ntmps47
    go_wp2
    go_ret
    exact ⟨rfl, rfl⟩
  by_cases h_secondly : s.data.toList = [64, 115, 101, 99, 111, 110, 100, 108, 121]
  · rw [ba_mk h_secondly, show (Xs.macroText (ByteArray.mk ([64, 115, 101, 99, 111, 110, 100, 108, 121] : List UInt8).toArray).data.toList).getD [] = [42, 32, 42, 32, 42, 32, 42, 32, 42, 32, 42] by decide +kernel]
    clear h_secondly
    go_enter Tryz.func47, Tryz.ntmps47
    go_wp2
    go_ret
    exact ⟨rfl, rfl⟩
  have n_yearly : (s.toList == [64, 121, 101, 97, 114, 108, 121]) = false := ba_beq h_yearly
  have n_annually : (s.toList == [64, 97, 110, 110, 117, 97, 108, 108, 121]) = false := ba_beq h_annually
  have n_monthly : (s.toList == [64, 109, 111, 110, 116, 104, 108, 121]) = false := ba_beq h_monthly
  have n_weekly : (s.toList == [64, 119, 101, 101, 107, 108, 121]) = false := ba_beq h_weekly
  have n_daily : (s.toList == [64, 100, 97, 105, 108, 121]) = false := ba_beq h_daily
  have n_midnight : (s.toList == [64, 109, 105, 100, 110, 105, 103, 104, 116]) = false := ba_beq h_midnight
  have n_hourly : (s.toList == [64, 104, 111, 117, 114, 108, 121]) = false := ba_beq h_hourly
  have n_minutely : (s.toList == [64, 109, 105, 110, 117, 116, 101, 108, 121]) = false := ba_beq h_minutely
  have n_secondly : (s.toList == [64, 115, 101, 99, 111, 110, 100, 108, 121]) = false := ba_beq h_secondly
  have ht : Xs.macroText s.data.toList = none := by
    unfold Xs.macroText
    simp [h_yearly, h_annually, h_monthly, h_weekly, h_daily, h_midnight, h_hourly, h_minutely, h_secondly]
  rw [ht]
  clear ht h_yearly h_annually h_monthly h_weekly h_daily h_midnight h_hourly h_minutely h_secondly
  go_enter Tryz.func47, Tryz.ntmps47
  go_wp2
  go_ret
  exact ⟨rfl, rfl⟩

set_option maxHeartbeats 1000000 in
theorem ref7_Fields (a b c d e f : Nat) (ad aw : Bool) (w : World) : Calls Tryz.prog 51 #[.agg #[.int .u64 a, .int .u64 b, .int .u64 c, .int .u64 d, .int .u64 e, .int .u64 f, .bool ad, .bool aw]] w fun ev w' => ev = .returned (.slice (some ⟨w.heap.size + 1, 0, none⟩) 6 6) ∧
    w' = (w.alloc (.cells #[.int .u64 a, .int .u64 b, .int .u64 c, .int .u64 d, .int .u64 e, .int .u64 f, .bool ad, .bool aw] 25)).alloc (.cells #[.int .u64 a, .int .u64 b, .int .u64 c, .int .u64 d, .int .u64 e, .int .u64 f] 23) := by
  go_enter Tryz.func51, Tryz.ntmps51
  go_wp2
  go_ret
  exact ⟨by simp, rfl⟩

set_option maxRecDepth 100000 in
set_option maxHeartbeats 4000000 in
theorem ref7_made (b c : Nat) (l0 l1 l2 l3 l4 l5 : Nat) (d k : Bool) (w : World) (hb : b < w.heap.size) (h0 : w.cell? ⟨b, 0, none⟩ = some (.int .u64 l0)) (h1 : w.cell? ⟨b, 1, none⟩ = some (.int .u64 l1)) (h2 : w.cell? ⟨b, 2, none⟩ = some (.int .u64 l2)) (h3 : w.cell? ⟨b, 3, none⟩ = some (.int .u64 l3)) (h4 : w.cell? ⟨b, 4, none⟩ = some (.int .u64 l4)) (h5 : w.cell? ⟨b, 5, none⟩ = some (.int .u64 l5)) :
    Calls Tryz.prog 46 #[.slice (some ⟨b, 0, none⟩) 6 c, .bool d, .bool k] w fun ev w' => ev = .returned (.agg #[.int .u64 l0, .int .u64 l1, .int .u64 l2, .int .u64 l3, .int .u64 l4, .int .u64 l5, .bool d, .bool k]) ∧ Below w.heap.size w w' := by
  go_enter Tryz.func46, Tryz.ntmps46
  go_wp2
  go_region
  go_wp2
  obtain ⟨ec, ef⟩ := (Blk.new w 25 #[.int .u64 l0, .int .u64 l1, .int .u64 l2, .int .u64 l3, .int .u64 l4, .int .u64 l5, .bool d, .bool k]).drew.facts
  have HB := Lib.hid ((Below.refl w.heap.size w).alloc (Nat.le_refl _) (.cells #[.int .u64 l0, .int .u64 l1, .int .u64 l2, .int .u64 l3, .int .u64 l4, .int .u64 l5, .bool d, .bool k] 25)).drew
  generalize World.drew _ = W at *
  exact bodyPost_ret (v := .agg #[.int .u64 l0, .int .u64 l1, .int .u64 l2, .int .u64 l3, .int .u64 l4, .int .u64 l5, .bool d, .bool k]) (by simp [results, Tryz.results46, go_sem, ec, ef]) rfl ⟨rfl, HB.out⟩
end Go.Proofs.YtjnlgaeedcklaaaGreatDoor
