/-
  The program's reader: a number or a name.
-/
import Derived.Test.YtjnlgaeedcklaaaGreatDoorFRd3
set_option linter.unusedVariables false
set_option linter.unusedSimpArgs false
namespace Go.Proofs.YtjnlgaeedcklaaaGreatDoor
open Go.RowKit

theorem upper_map (t : List UInt8) : Lib.toUpperA t = t.map Fs.up := by
  unfold Lib.toUpperA
  apply List.map_congr_left
  intro c _
  have e : Lib.isLowerB c = (decide (97 ≤ c.toNat) && decide (c.toNat ≤ 122)) := by
    unfold Lib.isLowerB
    rw [Bool.eq_iff_iff]
    simp [UInt8.le_iff_toNat_le]
  unfold Lib.upperB Fs.up
  rw [e]

theorem idxOfS_some (l : List ByteArray) (x : ByteArray) (i : Nat) (h : Fs.idxOf (l.map (·.data.toList)) x.data.toList = some i) : Lib.idxOfS (l.take l.length) x = (i : Int) ∧ i < l.length := by
  unfold Fs.idxOf at h
  rw [List.findIdx?_eq_some_iff_getElem] at h
  obtain ⟨hi, he, hne⟩ := h
  have hi' : i < l.length := by simpa using hi
  refine ⟨Lib.idxOfS_hit l l.length i x hi' (Nat.le_refl _) ?_ (fun j hj => ?_), hi'⟩
  · rw [List.getD_eq_getElem?_getD, List.getElem?_eq_getElem hi']
    simp only [List.getElem_map, beq_iff_eq] at he
    exact bytes_ext he
  · have := hne j hj
    rw [List.getD_eq_getElem?_getD, List.getElem?_eq_getElem (by omega)]
    simp only [List.getElem_map, beq_iff_eq] at this
    intro e
    exact this (by rw [← e]; rfl)
theorem idxOfS_none (l : List ByteArray) (x : ByteArray) (h : Fs.idxOf (l.map (·.data.toList)) x.data.toList = none) : Lib.idxOfS (l.take l.length) x = -1 := by
  unfold Fs.idxOf at h
  rw [List.findIdx?_eq_none_iff] at h
  refine Lib.idxOfS_miss l l.length x (fun j hj => ?_)
  rw [List.getD_eq_getElem?_getD, List.getElem?_eq_getElem hj]
  intro e
  have := h l[j].data.toList (List.mem_map.2 ⟨l[j], List.getElem_mem hj, rfl⟩)
  simp only [beq_eq_false_iff_ne] at this
  exact this (by rw [← e]; rfl)

theorem letter_ascii {c : UInt8} (h : Fs.letterB c = true) : c.toNat < 128 := by
  simp only [Fs.letterB, Bool.or_eq_true, Bool.and_eq_true, decide_eq_true_eq] at h
  omega

/-- slices.Index at the names, nil or not. -/
theorem rd_index (A : Option Addr) (c : Nat) (l : List ByteArray) (x : ByteArray) (w : World) (hn : l.length ≤ 1000) (hA : Names w w.heap.size A l) :
    Calls Tryz.prog 136 #[.slice A l.length c, .string x] w fun e w' => e = .returned (.int .i64 (Lib.idxOfS (l.take l.length) x)) ∧ w = w' := by
  rcases hA with rfl | ⟨b, off, rfl, hb, hc⟩
  · exact (Tryz.slices_Index_string_empty A c x w).mono fun _ _ h => ⟨h.1, h.2.symm⟩
  · exact (Tryz.slices_Index_string b off l.length c l x w (Nat.le_refl _) (by omega) hc).mono fun _ _ h => ⟨h.1, h.2.symm⟩

theorem Names.drewN {w : World} {B : Nat} {A : Option Addr} {l : List ByteArray} (h : Names w B A l) (n : Nat) : Names (w.drewN n) B A l := h
theorem Names.drew {w : World} {B : Nat} {A : Option Addr} {l : List ByteArray} (h : Names w B A l) : Names w.drew B A l := h
theorem Names.more {w : World} {B B' : Nat} {A : Option Addr} {l : List ByteArray} (h : Names w B A l) (hB : B ≤ B') : Names w B' A l := by
  rcases h with h | ⟨b, off, rfl, hlt, hc⟩
  · exact .inl h
  · exact .inr ⟨b, off, rfl, by omega, hc⟩

/-- There is no letter: a number is read. -/
theorem rd_value_num (g : Nat) (w : World) (lo hi : Int) (nm : Value) (week : Bool) (s : ByteArray) (k n : Nat) (x0 x1 x2 x3 x4 x5 x6 x7 x8 x9 : Value) (ls b th : Value) (hs : s.size ≤ 100000) (hk : k ≤ s.size)
    (h0 : Fs.span Fs.letterB s.size (s.data.toList.drop k) = 0)
    (hn : Fs.span Fs.digitB 2 (s.data.toList.drop k) = n) (hT : Tabs w)
    (hB : Blk w g 124 #[.int .i64 lo, .int .i64 hi, nm, .bool week, .string s, .int .i64 k, x0, x1, x2, x3, x4, x5, x6, x7, x8, x9, ls, b, th]) :
    Calls Tryz.prog 102 #[.pointer (some ⟨g, 0, none⟩)] w fun e w' =>
      e = .returned (.tuple #[.agg #[.int .i64 (Fs.numOf ((s.data.toList.drop k).take n)), .int .i64 k, .bool true], .bool (decide (0 < n))]) ∧ Kg g w w' ∧
      Blk w' g 124 #[.int .i64 lo, .int .i64 hi, nm, .bool week, .string s, .int .i64 (k + n : Nat), x0, x1, x2, x3, x4, x5, x6, x7, x8, x9, ls, b, th] := by
  have HB := Lib.hid hB
  have H0 := Lib.hid h0
  have Hn := Lib.hid hn
  have HT := Lib.hid hT
  have hg := hB.lt
  obtain ⟨hc, hf⟩ := hB.facts
  clear hB h0 hn hT
  generalize hv : (Fs.numOf ((s.data.toList.drop k).take n) : Int) = v
  have Hv := Lib.hid hv; clear hv
  go_enter Tryz.func102, Tryz.ntmps102
  go_wp2_with (first
    | (go_at_call 139; refine (rd_span_letter g _ 124 _ s k s.size hs hk hs (HB.out.alloc _) rfl rfl).mono ?_; rw [H0.out]; rintro e w1 ⟨rfl, d, rfl⟩)
    | (go_at_call 138; refine (rd_number g _ lo hi nm week s k n _ _ _ _ _ _ _ _ _ _ _ _ _ hs hk Hn.out ((HT.out.alloc _).drewN _) ((HB.out.alloc _).drewN _)).mono ?_; rw [Hv.out]; rintro e w2 ⟨rfl, hk2, hB2⟩; obtain ⟨hcr, hfr⟩ := Blk.facts (Blk.kp ((Blk.new w 118 #[.int .i64 0, .int .i64 0, .bool false]).drewN d) hk2 (by omega))))
  have KW := ((((Kp.refl _ _).alloc _).drewN d).trans hk2 : Kg g w w2)
  refine bodyPost_ret (v := .tuple #[.agg #[.int .i64 v, .int .i64 k, .bool true], .bool (decide (0 < n))]) ?h1 rfl ?h2
  case h1 => simp [results, Tryz.results102, go_sem, hcr, hfr]
  case h2 => exact ⟨rfl, Kg.new_ (Kg.new_ (Kg.new_ KW (Nat.le_refl _) _ _) (Nat.le_refl _) _ _) (Nat.le_refl _) _ _, ((hB2.far (p := ⟨w.heap.size, 0, none⟩) (by show g ≠ w.heap.size; omega) _).far (p := ⟨w.heap.size, 1, none⟩) (by show g ≠ w.heap.size; omega) _).far (p := ⟨w.heap.size, 2, none⟩) (by show g ≠ w.heap.size; omega) _⟩

/-- There are letters: they are a name, or none. -/
theorem rd_upper (s : ByteArray) (k n : Nat) (w : World) (hs : s.size ≤ 100000) (hk : k + n ≤ s.size) (ha : ((s.data.toList.drop k).take n).all Fs.letterB = true) :
    Calls Tryz.prog 141 #[.string (s.extract k (k + n))] w fun e w' => e = .returned (.string ⟨(wordOf s k n).toArray⟩) ∧ Below w.heap.size w w' := by
  refine (Tryz.strings_ToUpper_ascii (s.extract k (k + n)) w (by rw [ByteArray.size_extract]; omega) (fun j b hj => ?_)).mono ?_
  · rw [extract_take] at hj
    exact letter_ascii (List.all_eq_true.1 ha b (List.mem_of_getElem? hj))
  · rintro e w' ⟨rfl, hb⟩
    exact ⟨by rw [extract_take, upper_map]; rfl, hb⟩

set_option maxRecDepth 100000 in
set_option maxHeartbeats 2000000 in
theorem rd_value_name (g : Nat) (w : World) (lo hi : Int) (A : Option Addr) (c : Nat) (l : List ByteArray) (week : Bool) (s : ByteArray) (k n i : Nat) (x0 x1 x2 x3 x4 x5 x6 x7 x8 x9 : Value) (ls b th : Value) (hs : s.size ≤ 100000) (hk : k ≤ s.size)
    (hlo : 0 ≤ lo) (hlo2 : lo ≤ 62) (hnl : l.length ≤ 1000) (hA : Names w g A l)
    (hn : Fs.span Fs.letterB s.size (s.data.toList.drop k) = n) (hn0 : 0 < n) (hT : Tabs w)
    (hix : Fs.idxOf (l.map (·.data.toList)) (wordOf s k n) = some i)
    (hB : Blk w g 124 #[.int .i64 lo, .int .i64 hi, .slice A l.length c, .bool week, .string s, .int .i64 k, x0, x1, x2, x3, x4, x5, x6, x7, x8, x9, ls, b, th]) :
    Calls Tryz.prog 102 #[.pointer (some ⟨g, 0, none⟩)] w fun e w' =>
      e = .returned (.tuple #[.agg #[.int .i64 (lo + i), .int .i64 k, .bool true], .bool true]) ∧ Kg g w w' ∧
      Blk w' g 124 #[.int .i64 lo, .int .i64 hi, .slice A l.length c, .bool week, .string s, .int .i64 (k + n : Nat), x0, x1, x2, x3, x4, x5, x6, x7, x8, x9, ls, b, th] := by
  have hkn : k + n ≤ s.size := by
    have h1 := span_le Fs.letterB s.size (s.data.toList.drop k)
    rw [hn, List.length_drop, ← Lib.size_eq] at h1; omega
  have hall : ((s.data.toList.drop k).take n).all Fs.letterB = true := by rw [← hn]; exact take_span_all _ _ _
  have e1 : (⟨(wordOf s k n).toArray⟩ : ByteArray).data.toList = wordOf s k n := by simp
  obtain ⟨hidx, hil⟩ := idxOfS_some l ⟨(wordOf s k n).toArray⟩ i (by rw [e1]; exact hix)
  have HB := Lib.hid hB
  have Hn := Lib.hid hn
  have HT := Lib.hid hT
  have HA := Lib.hid hA
  have Hup : Hid (∀ W : World, Calls Tryz.prog 141 #[.string (s.extract k (k + n))] W fun e w' => e = .returned (.string ⟨(wordOf s k n).toArray⟩) ∧ Below W.heap.size W w') := Lib.hid fun W => rd_upper s k n W hs hkn hall
  have Hix : Hid (∀ W : World, Names W W.heap.size A l → Calls Tryz.prog 136 #[.slice A l.length c, .string ⟨(wordOf s k n).toArray⟩] W fun e w' => e = .returned (.int .i64 i) ∧ W = w') := Lib.hid fun W hN => by
    have h := rd_index A c l ⟨(wordOf s k n).toArray⟩ W hnl hN
    rw [hidx] at h; exact h
  have hg := hB.lt
  obtain ⟨hc, hf⟩ := hB.facts
  clear hB hn hT hA hall e1 hidx hix
  generalize (⟨(wordOf s k n).toArray⟩ : ByteArray) = word at Hup Hix
  have hil2 : i ≤ 1000 := by omega
  have i0 : (0 : Int) ≤ (k : Int) := Int.natCast_nonneg _
  have i1 : (k : Int) ≤ (k : Int) + (n : Int) := by omega
  have i2 : (k : Int) + (n : Int) ≤ (s.size : Int) := by omega
  have n0 : ((n : Int) == 0) = false := by rw [beq_eq_false_iff_ne]; omega
  go_enter Tryz.func102, Tryz.ntmps102
  go_wp2_with (go_at_call 139; refine (rd_span_letter g _ 124 _ s k s.size hs hk hs (HB.out.alloc _) rfl rfl).mono ?_; rw [Hn.out]; rintro e w1 ⟨rfl, d, rfl⟩)
  obtain ⟨W, hW⟩ : ∃ W : World, (w.alloc (.cells #[.int .i64 0, .int .i64 0, .bool false] 118)).drewN d = W := ⟨_, rfl⟩
  rw [hW]
  have BW : Hid (Blk W g 124 #[.int .i64 lo, .int .i64 hi, .slice A l.length c, .bool week, .string s, .int .i64 k, x0, x1, x2, x3, x4, x5, x6, x7, x8, x9, ls, b, th]) := Lib.hid (hW ▸ (HB.out.alloc _).drewN d)
  have BR : Hid (Blk W w.heap.size 118 #[.int .i64 0, .int .i64 0, .bool false]) := Lib.hid (hW ▸ (Blk.new w _ _).drewN d)
  have KW : Hid (Kg g w W) := Lib.hid (hW ▸ ((Kp.refl _ _).alloc _).drewN d)
  have NW : Hid (Names W g A l) := Lib.hid (hW ▸ (HA.out.below ((Below.refl g w).alloc (Nat.le_of_lt hg) _) (Nat.le_refl _)).drewN d)
  have szW : W.heap.size = w.heap.size + 1 := by rw [← hW]; simp [World.drewN]
  have SZ := Lib.hid szW
  clear hW szW hc hf
  obtain ⟨hc, hf⟩ := BW.out.facts
  obtain ⟨hcr, hfr⟩ := BR.out.facts
  have hgW := BW.out.lt
  have hrW := BR.out.lt
  have c2 := hc 2
  have c4 := hc 4
  have c5 := hc 5
  have a2 : (0 : Int) ≤ (k : Int) + (n : Int) := by omega
  have a3 : ((k : Int) + (n : Int)).toNat = k + n := by omega
  have a1 : IntKind.i64.wrap ((k : Int) + (n : Int)) = (k : Int) + (n : Int) := IntWalk.i64_in _ (by omega)
  go_region_held3 (fun w' => w'.cell? ⟨g, 2, none⟩ = some (.slice A l.length c) ∧ w'.cell? ⟨g, 4, none⟩ = some (.string s) ∧ w'.cell? ⟨g, 5, none⟩ = some (.int .i64 k)) (first | (exact ⟨(hb2.cell (p := ⟨g, 2, none⟩) hgW).trans c2, (hb2.cell (p := ⟨g, 4, none⟩) hgW).trans c4, (hb2.cell (p := ⟨g, 5, none⟩) hgW).trans c5⟩) | go_keep)
    (first
      | (go_at_call 141; refine (Hup.out _).mono ?_; rintro e w2 ⟨rfl, hb2⟩)
      | (go_at_call 136; refine (Hix.out _ ((NW.out.drew.below (hb2.mono (Nat.le_of_lt hgW)) (Nat.le_refl _)).more (by have := hb2.size; simp at this; omega))).mono ?_; rintro e w3 ⟨rfl, rfl⟩))
  clear a1 a2 a3
  have BW2 : Hid (Blk w2 g 124 #[.int .i64 lo, .int .i64 hi, .slice A l.length c, .bool week, .string s, .int .i64 k, x0, x1, x2, x3, x4, x5, x6, x7, x8, x9, ls, b, th]) := Lib.hid (BW.out.drew.below hb2 hgW)
  have BR2 : Hid (Blk w2 w.heap.size 118 #[.int .i64 0, .int .i64 0, .bool false]) := Lib.hid (BR.out.drew.below hb2 hrW)
  have KW2 : Hid (Kg g w w2) := Lib.hid ((KW.out.drew).trans' (Kp.of_below (S := fun _ => False) hb2) (fun _ h => h.elim))
  have lt2 : w.heap.size < w2.heap.size := BR2.out.lt
  clear hc hf hcr hfr hgW hrW c2 c4 c5 hb2
  obtain ⟨hc, hf⟩ := BW2.out.facts
  obtain ⟨hcr, hfr⟩ := BR2.out.facts
  have hg2 : g < w2.heap.size := BW2.out.lt
  have c0 : w2.cell? ⟨g, 0, none⟩ = some (.int .i64 lo) := hc 0
  have c5 : w2.cell? ⟨g, 5, none⟩ = some (.int .i64 k) := hc 5
  go_wp2
  go_region
  all_goals go_wp2
  refine bodyPost_ret (v := .tuple #[.agg #[.int .i64 (lo + i), .int .i64 k, .bool true], .bool true]) ?h1 rfl ?h2
  case h1 =>
    obtain ⟨hcF, _⟩ := (((((BR2.out.far (p := ⟨g, 5, none⟩) (by show w.heap.size ≠ g; omega) (.int .i64 ((k : Int) + (n : Int)))).set_ 0 (.int .i64 (lo + i))).set_ 1 (.int .i64 k)).set_ 2 (.bool true)).alloc (.cells #[.int .i64 (lo + i), .int .i64 k, .bool true] 118)).facts
    simp [results, Tryz.results102, go_sem, hcF]
  case h2 => exact ⟨rfl, ((Kg.new_ (Kg.new_ (Kg.new_ (Kg.set_ KW2.out _ _) (Nat.le_refl _) _ _) (Nat.le_refl _) _ _) (Nat.le_refl _) _ _).alloc _).drew, (((((BW2.out.set_ 5 _).far (p := ⟨w.heap.size, 0, none⟩) (by show g ≠ w.heap.size; omega) _).far (p := ⟨w.heap.size, 1, none⟩) (by show g ≠ w.heap.size; omega) _).far (p := ⟨w.heap.size, 2, none⟩) (by show g ≠ w.heap.size; omega) _).alloc _).drew⟩

set_option maxRecDepth 100000 in
set_option maxHeartbeats 2000000 in
theorem rd_value_bad (g : Nat) (w : World) (lo hi : Int) (A : Option Addr) (c : Nat) (l : List ByteArray) (week : Bool) (s : ByteArray) (k n : Nat) (x0 x1 x2 x3 x4 x5 x6 x7 x8 x9 : Value) (ls b th : Value) (hs : s.size ≤ 100000) (hk : k ≤ s.size)
    (hlo : 0 ≤ lo) (hlo2 : lo ≤ 62) (hnl : l.length ≤ 1000) (hA : Names w g A l)
    (hn : Fs.span Fs.letterB s.size (s.data.toList.drop k) = n) (hn0 : 0 < n) (hT : Tabs w)
    (hix : Fs.idxOf (l.map (·.data.toList)) (wordOf s k n) = none)
    (hB : Blk w g 124 #[.int .i64 lo, .int .i64 hi, .slice A l.length c, .bool week, .string s, .int .i64 k, x0, x1, x2, x3, x4, x5, x6, x7, x8, x9, ls, b, th]) :
    Calls Tryz.prog 102 #[.pointer (some ⟨g, 0, none⟩)] w fun e w' =>
      e = .returned (.tuple #[.agg #[.int .i64 0, .int .i64 0, .bool false], .bool false]) ∧ Kg g w w' ∧
      Blk w' g 124 #[.int .i64 lo, .int .i64 hi, .slice A l.length c, .bool week, .string s, .int .i64 k, x0, x1, x2, x3, x4, x5, x6, x7, x8, x9, ls, b, th] := by
  have hkn : k + n ≤ s.size := by
    have h1 := span_le Fs.letterB s.size (s.data.toList.drop k)
    rw [hn, List.length_drop, ← Lib.size_eq] at h1; omega
  have hall : ((s.data.toList.drop k).take n).all Fs.letterB = true := by rw [← hn]; exact take_span_all _ _ _
  have e1 : (⟨(wordOf s k n).toArray⟩ : ByteArray).data.toList = wordOf s k n := by simp
  have hidx := idxOfS_none l ⟨(wordOf s k n).toArray⟩ (by rw [e1]; exact hix)
  have HB := Lib.hid hB
  have Hn := Lib.hid hn
  have HT := Lib.hid hT
  have HA := Lib.hid hA
  have Hup : Hid (∀ W : World, Calls Tryz.prog 141 #[.string (s.extract k (k + n))] W fun e w' => e = .returned (.string ⟨(wordOf s k n).toArray⟩) ∧ Below W.heap.size W w') := Lib.hid fun W => rd_upper s k n W hs hkn hall
  have Hix : Hid (∀ W : World, Names W W.heap.size A l → Calls Tryz.prog 136 #[.slice A l.length c, .string ⟨(wordOf s k n).toArray⟩] W fun e w' => e = .returned (.int .i64 (-1)) ∧ W = w') := Lib.hid fun W hN => by
    have h := rd_index A c l ⟨(wordOf s k n).toArray⟩ W hnl hN
    rw [hidx] at h; exact h
  have hg := hB.lt
  obtain ⟨hc, hf⟩ := hB.facts
  clear hB hn hT hA hall e1 hidx hix
  generalize (⟨(wordOf s k n).toArray⟩ : ByteArray) = word at Hup Hix
  have i0 : (0 : Int) ≤ (k : Int) := Int.natCast_nonneg _
  have i1 : (k : Int) ≤ (k : Int) + (n : Int) := by omega
  have i2 : (k : Int) + (n : Int) ≤ (s.size : Int) := by omega
  have n0 : ((n : Int) == 0) = false := by rw [beq_eq_false_iff_ne]; omega
  go_enter Tryz.func102, Tryz.ntmps102
  go_wp2_with (go_at_call 139; refine (rd_span_letter g _ 124 _ s k s.size hs hk hs (HB.out.alloc _) rfl rfl).mono ?_; rw [Hn.out]; rintro e w1 ⟨rfl, d, rfl⟩)
  obtain ⟨W, hW⟩ : ∃ W : World, (w.alloc (.cells #[.int .i64 0, .int .i64 0, .bool false] 118)).drewN d = W := ⟨_, rfl⟩
  rw [hW]
  have BW : Hid (Blk W g 124 #[.int .i64 lo, .int .i64 hi, .slice A l.length c, .bool week, .string s, .int .i64 k, x0, x1, x2, x3, x4, x5, x6, x7, x8, x9, ls, b, th]) := Lib.hid (hW ▸ (HB.out.alloc _).drewN d)
  have BR : Hid (Blk W w.heap.size 118 #[.int .i64 0, .int .i64 0, .bool false]) := Lib.hid (hW ▸ (Blk.new w _ _).drewN d)
  have KW : Hid (Kg g w W) := Lib.hid (hW ▸ ((Kp.refl _ _).alloc _).drewN d)
  have NW : Hid (Names W g A l) := Lib.hid (hW ▸ (HA.out.below ((Below.refl g w).alloc (Nat.le_of_lt hg) _) (Nat.le_refl _)).drewN d)
  have szW : W.heap.size = w.heap.size + 1 := by rw [← hW]; simp [World.drewN]
  have SZ := Lib.hid szW
  clear hW szW hc hf
  obtain ⟨hc, hf⟩ := BW.out.facts
  obtain ⟨hcr, hfr⟩ := BR.out.facts
  have hgW := BW.out.lt
  have hrW := BR.out.lt
  have c2 := hc 2
  have c4 := hc 4
  have c5 := hc 5
  have a2 : (0 : Int) ≤ (k : Int) + (n : Int) := by omega
  have a3 : ((k : Int) + (n : Int)).toNat = k + n := by omega
  have a1 : IntKind.i64.wrap ((k : Int) + (n : Int)) = (k : Int) + (n : Int) := IntWalk.i64_in _ (by omega)
  go_region_held3 (fun w' => w'.cell? ⟨g, 2, none⟩ = some (.slice A l.length c) ∧ w'.cell? ⟨g, 4, none⟩ = some (.string s) ∧ w'.cell? ⟨g, 5, none⟩ = some (.int .i64 k)) (first | (exact ⟨(hb2.cell (p := ⟨g, 2, none⟩) hgW).trans c2, (hb2.cell (p := ⟨g, 4, none⟩) hgW).trans c4, (hb2.cell (p := ⟨g, 5, none⟩) hgW).trans c5⟩) | go_keep)
    (first
      | (go_at_call 141; refine (Hup.out _).mono ?_; rintro e w2 ⟨rfl, hb2⟩)
      | (go_at_call 136; refine (Hix.out _ ((NW.out.drew.below (hb2.mono (Nat.le_of_lt hgW)) (Nat.le_refl _)).more (by have := hb2.size; simp at this; omega))).mono ?_; rintro e w3 ⟨rfl, rfl⟩))
  clear a1 a2 a3
  have BW2 : Hid (Blk w2 g 124 #[.int .i64 lo, .int .i64 hi, .slice A l.length c, .bool week, .string s, .int .i64 k, x0, x1, x2, x3, x4, x5, x6, x7, x8, x9, ls, b, th]) := Lib.hid (BW.out.drew.below hb2 hgW)
  have BR2 : Hid (Blk w2 w.heap.size 118 #[.int .i64 0, .int .i64 0, .bool false]) := Lib.hid (BR.out.drew.below hb2 hrW)
  have KW2 : Hid (Kg g w w2) := Lib.hid ((KW.out.drew).trans' (Kp.of_below (S := fun _ => False) hb2) (fun _ h => h.elim))
  have lt2 : w.heap.size < w2.heap.size := BR2.out.lt
  clear hc hf hcr hfr hgW hrW c2 c4 c5 hb2
  obtain ⟨hc, hf⟩ := BW2.out.facts
  obtain ⟨hcr, hfr⟩ := BR2.out.facts
  have hg2 : g < w2.heap.size := BW2.out.lt
  go_wp2
  refine bodyPost_ret (v := .tuple #[.agg #[.int .i64 0, .int .i64 0, .bool false], .bool false]) ?h1 rfl ?h2
  case h1 => simp [results, Tryz.results102, go_sem, hc, hf, hcr, hfr]
  case h2 => exact ⟨rfl, Kg.new_ (Kg.new_ (Kg.new_ KW2.out (Nat.le_refl _) _ _) (Nat.le_refl _) _ _) (Nat.le_refl _) _ _, ((BW2.out.far (p := ⟨w.heap.size, 0, none⟩) (by show g ≠ w.heap.size; omega) _).far (p := ⟨w.heap.size, 1, none⟩) (by show g ≠ w.heap.size; omega) _).far (p := ⟨w.heap.size, 2, none⟩) (by show g ≠ w.heap.size; omega) _⟩

end Go.Proofs.YtjnlgaeedcklaaaGreatDoor
