/-
  The program's reader: how many of the next bytes fulfil a condition.
  The program's reader: one or two digits.
-/
import Derived.Test.YtjnlgaeedcklaaaGreatDoorFTabs
import Derived.Deep.RegionHeld3
import Derived.Laws.Pointers
import Derived.StillTactics
import Derived.IntWalk
set_option linter.unusedVariables false
set_option linter.unusedSimpArgs false
namespace Go.Proofs.YtjnlgaeedcklaaaGreatDoor
open Go.RowKit

theorem quiet_of_left {P : Program} {f : FuncId} {args : Array Value} {w : World} {n : Nat} {v : Value} (h : Calls P f args (w.drewN n) fun e w' => e = .returned v ∧ w.drewN n = w') :
    Calls P f args (w.drewN n) fun e w'' => e = .returned v ∧ ∃ m, w'' = w.drewN m := h.mono fun _ _ ⟨he, hm⟩ => ⟨he, n, hm.symm⟩

set_option maxHeartbeats 1000000 in
theorem rd_span_digit (g : Nat) (w : World) (t : TypeId) (cs : Array Value) (s : ByteArray) (k most : Nat) (hs : s.size ≤ 100000) (hk : k ≤ s.size) (hm : most ≤ 100000) (hB : Blk w g t cs) (h4 : cs[4]? = some (.string s)) (h5 : cs[5]? = some (.int .i64 k)) :
    Calls Tryz.prog 139 #[.pointer (some ⟨g, 0, none⟩), .int .i64 most, .func (.func 153) #[] #[]] w fun e w' =>
      e = .returned (.int .i64 (Fs.span Fs.digitB most (s.data.toList.drop k))) ∧ ∃ d, w' = w.drewN d := by
  have hc4 : ∀ d, (w.drewN d).cell? ⟨g, 4, none⟩ = some (.string s) := fun d => ((hB.drewN d).cell 4).trans h4
  have hc5 : ∀ d, (w.drewN d).cell? ⟨g, 5, none⟩ = some (.int .i64 k) := fun d => ((hB.drewN d).cell 5).trans h5
  have H4 := Lib.hid hc4
  have H5 := Lib.hid hc5
  clear hB h4 h5 hc4 hc5
  go_enter Tryz.func139, Tryz.ntmps139
  go_wp2
  go_loopw [7] (fun n wr => ∃ m : Nat, m ≤ most ∧ k + m ≤ s.size ∧ n = .int .i64 m ∧ ((s.data.toList.drop k).take m).all Fs.digitB = true ∧ ∃ d, wr = w.drewN d) (fun n _ => most - (intOf n).toNat)
  case atStart => exact ⟨0, by omega, by omega, rfl, rfl, 0, rfl⟩
  case round =>
    obtain ⟨m, hm1, hm2, rfl, hall, d, rfl⟩ := hrel
    have Hall := Lib.hid hall; clear hall
    have c4 := H4.out d
    have c5 := H5.out d
    generalize hwo : w.drewN d = wo at c4 c5
    have Hwo := Lib.hid hwo; clear hwo
    by_cases hlt : m < most
    · by_cases hlt2 : k + m < s.size
      · have hi : (k : Int) + (m : Int) < (s.size : Int) := by omega
        have hi0 : (0 : Int) ≤ (k : Int) + (m : Int) := by omega
        cases hp : Fs.digitB s[k + m] with
        | true =>
          have Hp := Lib.hid hp
          go_wp2
          go_quiet ((go_at_call 153; exact quiet_of_left (field_digit _ _)))
          go_wp2
          go_roundw
          case rel => exact ⟨m + 1, by omega, by omega, by go_num, all_succ s k m _ hlt2 Hall.out Hp.out, d + nq, by rw [← Hwo.out, World.drewN_drewN]⟩
          case measure => simp [intOf]; omega
        | false =>
          have Hp := Lib.hid hp
          go_wp2
          go_quiet ((go_at_call 153; exact quiet_of_left (field_digit _ _)))
          go_wp2
          go_ret
          exact ⟨ret_int (by rw [span_stop s k m most _ hlt2 Hall.out Hp.out hm1]), d + nq, by rw [← Hwo.out, World.drewN_drewN]⟩
      · have hd : decide ((k : Int) + (m : Int) < (s.size : Int)) = false := by simp; omega
        go_wp2
        go_quiet (fail)
        go_wp2
        go_ret
        exact ⟨ret_int (by rw [span_end s k m most _ (by omega) Hall.out hm1]), d + nq, by rw [← Hwo.out, World.drewN_drewN]⟩
    · have hd : decide (m < most) = false := by simp; omega
      obtain rfl : m = most := by omega
      go_wp2
      go_quiet (fail)
      go_wp2
      go_ret
      exact ⟨ret_int (by rw [span_most _ _ m Hall.out (by rw [List.length_drop, ← Lib.size_eq]; omega)]), d + nq, by rw [← Hwo.out, World.drewN_drewN]⟩

set_option maxHeartbeats 1000000 in
theorem rd_span_letter (g : Nat) (w : World) (t : TypeId) (cs : Array Value) (s : ByteArray) (k most : Nat) (hs : s.size ≤ 100000) (hk : k ≤ s.size) (hm : most ≤ 100000) (hB : Blk w g t cs) (h4 : cs[4]? = some (.string s)) (h5 : cs[5]? = some (.int .i64 k)) :
    Calls Tryz.prog 139 #[.pointer (some ⟨g, 0, none⟩), .int .i64 most, .func (.func 140) #[] #[]] w fun e w' =>
      e = .returned (.int .i64 (Fs.span Fs.letterB most (s.data.toList.drop k))) ∧ ∃ d, w' = w.drewN d := by
  have hc4 : ∀ d, (w.drewN d).cell? ⟨g, 4, none⟩ = some (.string s) := fun d => ((hB.drewN d).cell 4).trans h4
  have hc5 : ∀ d, (w.drewN d).cell? ⟨g, 5, none⟩ = some (.int .i64 k) := fun d => ((hB.drewN d).cell 5).trans h5
  have H4 := Lib.hid hc4
  have H5 := Lib.hid hc5
  clear hB h4 h5 hc4 hc5
  go_enter Tryz.func139, Tryz.ntmps139
  go_wp2
  go_loopw [7] (fun n wr => ∃ m : Nat, m ≤ most ∧ k + m ≤ s.size ∧ n = .int .i64 m ∧ ((s.data.toList.drop k).take m).all Fs.letterB = true ∧ ∃ d, wr = w.drewN d) (fun n _ => most - (intOf n).toNat)
  case atStart => exact ⟨0, by omega, by omega, rfl, rfl, 0, rfl⟩
  case round =>
    obtain ⟨m, hm1, hm2, rfl, hall, d, rfl⟩ := hrel
    have Hall := Lib.hid hall; clear hall
    have c4 := H4.out d
    have c5 := H5.out d
    generalize hwo : w.drewN d = wo at c4 c5
    have Hwo := Lib.hid hwo; clear hwo
    by_cases hlt : m < most
    · by_cases hlt2 : k + m < s.size
      · have hi : (k : Int) + (m : Int) < (s.size : Int) := by omega
        have hi0 : (0 : Int) ≤ (k : Int) + (m : Int) := by omega
        cases hp : Fs.letterB s[k + m] with
        | true =>
          have Hp := Lib.hid hp
          go_wp2
          go_quiet ((go_at_call 140; exact quiet_of_left (field_letter _ _)))
          go_wp2
          go_roundw
          case rel => exact ⟨m + 1, by omega, by omega, by go_num, all_succ s k m _ hlt2 Hall.out Hp.out, d + nq, by rw [← Hwo.out, World.drewN_drewN]⟩
          case measure => simp [intOf]; omega
        | false =>
          have Hp := Lib.hid hp
          go_wp2
          go_quiet ((go_at_call 140; exact quiet_of_left (field_letter _ _)))
          go_wp2
          go_ret
          exact ⟨ret_int (by rw [span_stop s k m most _ hlt2 Hall.out Hp.out hm1]), d + nq, by rw [← Hwo.out, World.drewN_drewN]⟩
      · have hd : decide ((k : Int) + (m : Int) < (s.size : Int)) = false := by simp; omega
        go_wp2
        go_quiet (fail)
        go_wp2
        go_ret
        exact ⟨ret_int (by rw [span_end s k m most _ (by omega) Hall.out hm1]), d + nq, by rw [← Hwo.out, World.drewN_drewN]⟩
    · have hd : decide (m < most) = false := by simp; omega
      obtain rfl : m = most := by omega
      go_wp2
      go_quiet (fail)
      go_wp2
      go_ret
      exact ⟨ret_int (by rw [span_most _ _ m Hall.out (by rw [List.length_drop, ← Lib.size_eq]; omega)]), d + nq, by rw [← Hwo.out, World.drewN_drewN]⟩

end Go.Proofs.YtjnlgaeedcklaaaGreatDoor

namespace Go.Proofs.YtjnlgaeedcklaaaGreatDoor
open Go.RowKit

theorem extract_take (s : ByteArray) (k n : Nat) : (s.extract k (k + n)).data.toList = (s.data.toList.drop k).take n := by
  simp [ByteArray.data_extract, Array.toList_extract, List.extract_eq_take_drop]

theorem take_span_all (p : UInt8 → Bool) (m : Nat) (l : List UInt8) : (l.take (Fs.span p m l)).all p = true := by
  unfold Fs.span
  have h : l.take ((l.take m).takeWhile p).length = (l.take m).takeWhile p := by
    have h1 : ((l.take m).takeWhile p) <+: l := (List.takeWhile_prefix p).trans (List.take_prefix m l)
    exact (List.prefix_iff_eq_take.1 h1).symm
  rw [h]
  exact List.all_takeWhile

set_option maxRecDepth 100000 in
set_option maxHeartbeats 2000000 in
theorem rd_number (g : Nat) (w : World) (lo hi : Int) (nm : Value) (week : Bool) (s : ByteArray) (k n : Nat) (x0 x1 x2 x3 x4 x5 x6 x7 x8 x9 : Value) (ls b th : Value) (hs : s.size ≤ 100000) (hk : k ≤ s.size)
    (hn : Fs.span Fs.digitB 2 (s.data.toList.drop k) = n) (hT : Tabs w)
    (hB : Blk w g 124 #[.int .i64 lo, .int .i64 hi, nm, .bool week, .string s, .int .i64 k, x0, x1, x2, x3, x4, x5, x6, x7, x8, x9, ls, b, th]) :
    Calls Tryz.prog 138 #[.pointer (some ⟨g, 0, none⟩)] w fun e w' =>
      e = .returned (.tuple #[.agg #[.int .i64 (Fs.numOf ((s.data.toList.drop k).take n)), .int .i64 k, .bool true], .bool (decide (0 < n))]) ∧ Kg g w w' ∧
      Blk w' g 124 #[.int .i64 lo, .int .i64 hi, nm, .bool week, .string s, .int .i64 (k + n : Nat), x0, x1, x2, x3, x4, x5, x6, x7, x8, x9, ls, b, th] := by
  have hn2 : n ≤ 2 := by
    rw [← hn]; unfold Fs.span
    exact Nat.le_trans (List.takeWhile_sublist _).length_le (List.length_take_le _ _)
  have hnl : k + n ≤ s.size := by
    have h1 := span_le Fs.digitB 2 (s.data.toList.drop k)
    rw [hn, List.length_drop, ← Lib.size_eq] at h1; omega
  have hall : ((s.data.toList.drop k).take n).all Fs.digitB = true := by rw [← hn]; exact take_span_all _ _ _
  have HB := Lib.hid hB
  have Hn := Lib.hid hn
  have HT := Lib.hid hT
  have hg := hB.lt
  obtain ⟨hc, hf⟩ := hB.facts
  clear hB hn hT
  have Hat : Hid (∀ W : World, Tabs W → Calls Tryz.prog 154 #[.string (s.extract k (k + n))] W fun e w' => (∃ v, e = .returned (.tuple #[.int .i64 (Fs.numOf ((s.data.toList.drop k).take n)), v])) ∧ Below W.heap.size W w') := Lib.hid fun W hW => by
    have h := rd_atoi (s.extract k (k + n)) W (by rw [ByteArray.size_extract]; omega) (by rw [extract_take]; exact hall) hW
    rw [extract_take] at h; exact h
  clear hall
  generalize hv : (Fs.numOf ((s.data.toList.drop k).take n) : Int) = v at *
  have Hv := Lib.hid hv; clear hv
  have i0 : (0 : Int) ≤ (k : Int) := Int.natCast_nonneg _
  have i1 : (k : Int) ≤ (k : Int) + (n : Int) := by omega
  have i2 : (k : Int) + (n : Int) ≤ (s.size : Int) := by omega
  go_enter Tryz.func138, Tryz.ntmps138
  go_wp2_with (go_at_call 139; refine (rd_span_digit g _ 124 _ s k 2 hs hk (by omega) ((HB.out.alloc _).alloc _) rfl rfl).mono ?_; rw [Hn.out]; rintro e w1 ⟨rfl, d, rfl⟩)
  obtain ⟨W, hW⟩ : ∃ W : World, ((w.alloc (.cells #[.int .i64 0, .int .i64 0, .bool false] 118)).alloc (.cells #[.int .i64 0, .int .i64 k, .bool true] 118)).drewN d = W := ⟨_, rfl⟩
  rw [hW]
  have BW : Hid (Blk W g 124 #[.int .i64 lo, .int .i64 hi, nm, .bool week, .string s, .int .i64 k, x0, x1, x2, x3, x4, x5, x6, x7, x8, x9, ls, b, th]) := Lib.hid (hW ▸ ((HB.out.alloc _).alloc _).drewN d)
  have BR : Hid (Blk W w.heap.size 118 #[.int .i64 0, .int .i64 0, .bool false]) := Lib.hid (hW ▸ ((Blk.new w _ _).alloc _).drewN d)
  have BX : Hid (Blk W (w.heap.size + 1) 118 #[.int .i64 0, .int .i64 k, .bool true]) := Lib.hid (hW ▸ (by have := (Blk.new (w.alloc (.cells #[.int .i64 0, .int .i64 0, .bool false] 118)) 118 #[.int .i64 0, .int .i64 k, .bool true]).drewN d; simpa using this))
  have KW : Hid (Kg g w W) := Lib.hid (hW ▸ (((Kp.refl _ _).alloc _).alloc _).drewN d)
  have TW : Hid (Tabs W) := Lib.hid (hW ▸ ((HT.out.alloc _).alloc _).drewN d)
  have szW : W.heap.size = w.heap.size + 2 := by rw [← hW]; simp [World.drewN]
  have SZ := Lib.hid szW
  clear hW szW hc hf
  obtain ⟨hc, hf⟩ := BW.out.facts
  obtain ⟨hcr, hfr⟩ := BR.out.facts
  obtain ⟨hcx, hfx⟩ := BX.out.facts
  have hgW := BW.out.lt
  have hxW := BX.out.lt
  have hrW := BR.out.lt
  have c4 := hc 4
  have c5 := hc 5
  have hne4 : (⟨w.heap.size + 1, 0, none⟩ : Addr) ≠ ⟨g, 4, none⟩ := by intro e; injection e; omega
  have hne5 : (⟨w.heap.size + 1, 0, none⟩ : Addr) ≠ ⟨g, 5, none⟩ := by intro e; injection e; omega
  have a2 : (0 : Int) ≤ (k : Int) + (n : Int) := by omega
  have a3 : ((k : Int) + (n : Int)).toNat = k + n := by omega
  have a1 : IntKind.i64.wrap ((k : Int) + (n : Int)) = (k : Int) + (n : Int) := IntWalk.i64_in _ (by omega)
  go_region_held3 (fun w' => w'.cell? ⟨g, 4, none⟩ = some (.string s) ∧ w'.cell? ⟨g, 5, none⟩ = some (.int .i64 k)) (first | (exact ⟨(hb2.cell (p := ⟨g, 4, none⟩) hgW).trans c4, (hb2.cell (p := ⟨g, 5, none⟩) hgW).trans c5⟩) | (exact ⟨(World.cell?_setCell_other _ _ _ _ hne4).trans ((hb2.cell (p := ⟨g, 4, none⟩) hgW).trans c4), (World.cell?_setCell_other _ _ _ _ hne5).trans ((hb2.cell (p := ⟨g, 5, none⟩) hgW).trans c5)⟩) | go_keep)
    (first | (go_at_call 154; refine (Hat.out _ TW.out.drew).mono ?_; rintro e w2 ⟨⟨ev, rfl⟩, hb2⟩; have q1 : w2.cell? ⟨w.heap.size + 1, 0, none⟩ = some (.int .i64 0) := (hb2.cell (p := ⟨w.heap.size + 1, 0, none⟩) hxW).trans (hcx 0); have q2 : w2.frozen? ⟨w.heap.size + 1, 0, none⟩ = false := (hb2.frozen (p := ⟨w.heap.size + 1, 0, none⟩) hxW).trans (hfx 0)))
  clear a1 a2 a3
  rename_i hHeld
  obtain ⟨W3, hW3⟩ : ∃ W3 : World, w2.setCell ⟨w.heap.size + 1, 0, none⟩ (.int .i64 v) = W3 := ⟨_, rfl⟩
  rw [hW3]
  have hgx : g ≠ w.heap.size + 1 := by omega
  have BW3 : Hid (Blk W3 g 124 #[.int .i64 lo, .int .i64 hi, nm, .bool week, .string s, .int .i64 k, x0, x1, x2, x3, x4, x5, x6, x7, x8, x9, ls, b, th]) := Lib.hid (hW3 ▸ ((BW.out.drew.below hb2 hgW).far (p := ⟨w.heap.size + 1, 0, none⟩) hgx _))
  have BR3 : Hid (Blk W3 w.heap.size 118 #[.int .i64 0, .int .i64 0, .bool false]) := Lib.hid (hW3 ▸ ((BR.out.drew.below hb2 hrW).far (p := ⟨w.heap.size + 1, 0, none⟩) (by simp) _))
  have BX3 : Hid (Blk W3 (w.heap.size + 1) 118 #[.int .i64 v, .int .i64 k, .bool true]) := Lib.hid (hW3 ▸ ((BX.out.drew.below hb2 hxW).set_ 0 _))
  have KW3 : Hid (Kg g w W3) := Lib.hid (hW3 ▸ Kg.new_ ((KW.out.drew).trans' (Kp.of_below (S := fun _ => False) hb2) (fun _ h => h.elim)) (by omega) 0 _)
  clear hW3 hHeld hc hf hcr hfr hcx hfx hgW hxW hrW c4 c5 hne4 hne5 hb2 q1 q2
  obtain ⟨hc, hf⟩ := BW3.out.facts
  obtain ⟨hcr, hfr⟩ := BR3.out.facts
  obtain ⟨hcx, hfx⟩ := BX3.out.facts
  go_wp2
  refine bodyPost_ret (v := .tuple #[.agg #[.int .i64 v, .int .i64 k, .bool true], .bool (decide (0 < n))]) ?h1 rfl ?h2
  case h1 => simp [results, Tryz.results138, go_sem, hc, hf, hcr, hfr, hcx, hfx]
  case h2 => exact ⟨rfl, Kg.new_ (Kg.new_ (Kg.new_ (Kg.set_ KW3.out _ _) (Nat.le_refl _) _ _) (Nat.le_refl _) _ _) (Nat.le_refl _) _ _, (((BW3.out.set_ 5 _).far (p := ⟨w.heap.size, 0, none⟩) (by show g ≠ w.heap.size; omega) _).far (p := ⟨w.heap.size, 1, none⟩) (by show g ≠ w.heap.size; omega) _).far (p := ⟨w.heap.size, 2, none⟩) (by show g ≠ w.heap.size; omega) _⟩

end Go.Proofs.YtjnlgaeedcklaaaGreatDoor
