/-
  The document's text: Parse.
-/
import Derived.Test.YtjnlgaeedcklaaaGreatDoorFRef7
import Derived.Test.YtjnlgaeedcklaaaGreatDoorFCheckR
import Derived.Deep.RegionHeld3
import Derived.Deep.RegionLaw
import Derived.Deep.AppendLies
import Derived.StillTailTactics
set_option linter.unusedVariables false
set_option linter.unusedSimpArgs false
namespace Go.Proofs.YtjnlgaeedcklaaaGreatDoor
open Go.RowKit

/-- What Parse returns. -/
def retP (p : Nat × Bool × Nat × Int) : Value := .tuple #[.int .u64 p.1, .bool p.2.1, .int .i64 p.2.2.1, .int .i64 p.2.2.2]

/-- The state of the loop over the items. -/
def SetL (kd : Fs.Kind) (xs : List Fs.Item) (w : World) (g : Nat) (cs : Array Value) (out i : Value) (wr : World) : Prop :=
  ∃ (n S : Nat), n ≤ xs.length ∧ S < 18446744073709551616 ∧ i = .int .i64 n ∧ out = .int .u64 S ∧ Fs.setOf kd (xs.drop n) S = Fs.setOf kd xs 0 ∧ Below w.heap.size w wr ∧ Blk wr w.heap.size 93 cs ∧
    (∀ j u, (xs.flatMap cellsR)[j]? = some u → wr.cell? ⟨g, j, none⟩ = some u) ∧ g < wr.heap.size

theorem flat_get (xs : List Fs.Item) (n : Nat) (h : n < xs.length) : ∀ j, j < 7 → (xs.flatMap cellsR)[n * 7 + j]? = (cellsR xs[n])[j]? := by
  induction xs generalizing n with
  | nil => simp at h
  | cons x xs ih =>
    intro j hj
    rcases n with _ | n
    · rw [List.flatMap_cons, List.getElem?_append_left (by simp [cellsR]; omega)]; simp
    · rw [List.flatMap_cons, List.getElem?_append_right (by simp [cellsR]; omega)]
      have := ih n (by simpa using h) j hj
      simp only [List.getElem_cons_succ]
      rw [← this]
      congr 1
      simp [cellsR]; omega

theorem setOf_wrong (kd : Fs.Kind) (xs : List Fs.Item) (n S a : Nat) (h : n < xs.length) (hw : Fs.wrongAt kd xs[n] = some a) : Fs.setOf kd (xs.drop n) S = (0, some a) := by
  rw [List.drop_eq_getElem_cons h]; simp [Fs.setOf, hw]
theorem setOf_next (kd : Fs.Kind) (xs : List Fs.Item) (n S : Nat) (h : n < xs.length) (hw : Fs.wrongAt kd xs[n] = none) : Fs.setOf kd (xs.drop n) S = Fs.setOf kd (xs.drop (n + 1)) (S ||| Fs.itemSet kd xs[n] 0) := by
  rw [List.drop_eq_getElem_cons h]; simp only [Fs.setOf, hw]; rw [← itemSet_or]
theorem setOf_end (kd : Fs.Kind) (xs : List Fs.Item) (S : Nat) : Fs.setOf kd (xs.drop xs.length) S = (S, none) := by
  rw [List.drop_length]; rfl

theorem itemsAt_ne (kd : Fs.Kind) (l : List UInt8) (f a b : Nat) (xs : List Fs.Item) (h : Fs.itemsAt kd l f a = .ok xs b) : xs ≠ [] := by
  rcases f with _ | f
  · cases h
  · rw [itemsAt_succ] at h
    cases hi : Fs.itemAt kd l a with
    | bad c => rw [hi] at h; cases h
    | ok x c =>
      rw [hi] at h
      simp only at h
      split at h
      · injection h with h _; subst h; simp
      · split at h
        · cases hr : Fs.itemsAt kd l f (c + 1) with
          | bad d => rw [hr] at h; cases h
          | ok ys d => rw [hr] at h; simp only [app] at h; injection h with h _; subst h; simp
        · cases h

theorem parse_bad (kd : Fs.Kind) (l : List UInt8) (h : Fs.checkB kd = false) : Fs.parse kd l = (0, false, 0, 2) := by simp [Fs.parse, h]
theorem parse_form (kd : Fs.Kind) (l : List UInt8) (a : Nat) (h : Fs.checkB kd = true) (h1 : Fs.itemsAt kd l (l.length + 1) 0 = .bad a) : Fs.parse kd l = (0, false, a, 10) := by simp [Fs.parse, h, h1]
theorem parse_arg (kd : Fs.Kind) (l : List UInt8) (xs : List Fs.Item) (b a S : Nat) (h : Fs.checkB kd = true) (h1 : Fs.itemsAt kd l (l.length + 1) 0 = .ok xs b) (h2 : Fs.setOf kd xs 0 = (S, some a)) : Fs.parse kd l = (0, false, a, 2) := by simp [Fs.parse, h, h1, h2]
theorem parse_ok (kd : Fs.Kind) (l : List UInt8) (xs : List Fs.Item) (b S : Nat) (h : Fs.checkB kd = true) (h1 : Fs.itemsAt kd l (l.length + 1) 0 = .ok xs b) (h2 : Fs.setOf kd xs 0 = (S, none)) : Fs.parse kd l = (S, l == [42], 0, 0) := by simp [Fs.parse, h, h1, h2]

set_option maxRecDepth 100000 in
set_option maxHeartbeats 2000000 in
theorem ref_Parse (s : ByteArray) (w : World) (lo hi : Int) (A : Option Addr) (c : Nat) (l : List ByteArray) (week : Bool) (h1 : -9223372036854775808 ≤ lo) (h2 : lo ≤ 9223372036854775807) (h3 : -9223372036854775808 ≤ hi) (h4 : hi ≤ 9223372036854775807)
    (hs : s.size ≤ 100000) (hn : l.length ≤ 1000) (hcc : l.length ≤ c) (hA : Names w w.heap.size A l) (hsz : ∀ s ∈ l, s.size ≤ 1000) :
    Calls Tryz.prog 44 #[.agg #[.int .i64 lo, .int .i64 hi, .slice A l.length c, .bool week], .string s] w fun e w' =>
      e = .returned (retP (Fs.parse (kind lo hi l week) s.data.toList)) ∧ Below w.heap.size w w' := by
  have HA := Lib.hid hA; clear hA
  have hck : ∀ W, Names W W.heap.size A l → Calls Tryz.prog 77 #[.agg #[.int .i64 lo, .int .i64 hi, .slice A l.length c, .bool week]] W fun e w' => e = .returned (.int .i64 (Fs.errOf (Fs.checkB (kind lo hi l week)))) ∧ Below W.heap.size W w' := fun W hW => ref_Check lo hi A c l week W h1 h2 h3 h4 hn hcc hW hsz
  generalize hr : Fs.parse (kind lo hi l week) s.data.toList = r
  cases hb : Fs.checkB (kind lo hi l week) with
  | false =>
    rw [parse_bad _ _ hb] at hr
    subst hr
    rw [hb] at hck
    have HC := Lib.hid hck; clear hck hb hsz
    go_enter Tryz.func44, Tryz.ntmps44
    go_wp2_with (first | (go_at_call 77; ((with_reducible refine (HC.out _ (HA.out.alloc _)).mono ?_)); simp only [Fs.errOf]; rintro e w1 ⟨rfl, hb1⟩))
    refine bodyPost_ret (v := .tuple #[.int .u64 0, .bool false, .int .i64 0, .int .i64 2]) (by simp [results, Tryz.results44, go_sem]) rfl ⟨rfl, ?_⟩
    exact ((Below.refl _ _).alloc (Nat.le_refl _) _).trans (hb1.mono (by simp))
  | true =>
    obtain ⟨b1, b2, b3, b4, b5⟩ := check_bounds hb
    obtain ⟨lon, rfl⟩ := Int.eq_ofNat_of_zero_le b1
    obtain ⟨hin, rfl⟩ := Int.eq_ofNat_of_zero_le b4
    rw [hb] at hck
    have HC := Lib.hid hck; clear hck hsz
    have hit : ∀ W, Names W W.heap.size A l → Calls Tryz.prog 78 #[.agg #[.int .i64 lon, .int .i64 hin, .slice A l.length c, .bool week], .string s] W (ItemsR W (Fs.itemsAt (kind lon hin l week) s.data.toList (s.data.toList.length + 1) 0)) := fun W hW => ref_items s W lon hin A c l week hs b1 b2 b5 hcc hW
    have Hk : Hid (Okk lon hin week) := Lib.hid (by simpa using b3)
    cases hI : Fs.itemsAt (kind lon hin l week) s.data.toList (s.data.toList.length + 1) 0 with
    | bad a =>
      rw [parse_form _ _ a hb hI] at hr
      subst hr
      rw [hI] at hit
      have HI := Lib.hid hit; clear hit hb hI
      go_enter Tryz.func44, Tryz.ntmps44
      go_wp2_with (first
        | (go_at_call 77; ((with_reducible refine (HC.out _ (HA.out.alloc _)).mono ?_)); simp only [Fs.errOf]; rintro e w1 ⟨rfl, hb1⟩; have Hb1 := Lib.hid hb1; obtain ⟨hc1, hf1⟩ := bcell hb1)
        | (go_at_call 78; ((with_reducible refine (HI.out _ ((HA.out.alloc _).below Hb1.out Hb1.out.size)).mono ?_)); rintro e w2 ⟨rfl, hb2⟩))
      refine bodyPost_ret (v := .tuple #[.int .u64 0, .bool false, .int .i64 a, .int .i64 10]) (by simp [results, Tryz.results44, go_sem]) rfl ⟨rfl, ?_⟩
      exact (((Below.refl _ _).alloc (Nat.le_refl _) _).trans (Hb1.out.mono (by simp))).trans (hb2.mono (by have := Hb1.out.size; simp at this; omega))
    | ok xs b =>
      rw [hI] at hit
      have HI := Lib.hid hit; clear hit
      have hwf := itemsAt_wf (kind lon hin l week) s.data.toList (by rw [← Lib.size_eq]; exact hs) b2 (by simpa [kind] using b5) _ _ xs b (Nat.zero_le _) hI
      have Hwf := Lib.hid hwf.1
      have Hne := Lib.hid (itemsAt_ne _ _ _ _ _ _ hI)
      have hxl := hwf.2
      rw [← Lib.size_eq] at hxl
      clear hwf
      have hpok := fun S h => parse_ok (kind lon hin l week) s.data.toList xs b S hb hI h
      have hpar := fun a S h => parse_arg (kind lon hin l week) s.data.toList xs b a S hb hI h
      rw [hr] at hpok hpar
      have Hpok := Lib.hid hpok
      have Hpar := Lib.hid hpar
      clear hpok hpar hr hb hI
      go_enter Tryz.func44, Tryz.ntmps44
      go_wp2_with (first
        | (go_at_call 77; ((with_reducible refine (HC.out _ (HA.out.alloc _)).mono ?_)); simp only [Fs.errOf]; rintro e w1 ⟨rfl, hb1⟩; have Hb1 := Lib.hid hb1; obtain ⟨hc1, hf1⟩ := bcell hb1)
        | (go_at_call 78; ((with_reducible refine (HI.out _ ((HA.out.alloc _).below Hb1.out Hb1.out.size)).mono ?_)); rintro e w2 ⟨⟨vs, rfl, hown⟩, hb2⟩))
      have hpos : 0 < xs.length := by
        rcases xs with _ | ⟨y, ys⟩
        · exact absurd rfl Hne.out
        · simp
      obtain ⟨g, cap, rfl, hg1, hg2⟩ := hown.form hpos
      have Hcells := Lib.hid (hown.cells (g := g) rfl)
      have hcl : ∀ j u, (xs.flatMap cellsR)[j]? = some u → w2.cell? ⟨g, j, none⟩ = some u := by
        intro j u hj
        have := Hcells.out j u hj
        rcases j with _ | j
        · simpa [Addr.add] using this
        · simpa [Addr.add] using this
      have Hcl := Lib.hid hcl
      have Hb2 := Lib.hid hb2
      have hz2 : w.heap.size < w2.heap.size := by have := Hb1.out.size; have := hb2.size; simp at *; omega
      have HBlk : Hid (Blk w2 w.heap.size 93 #[.int .i64 lon, .int .i64 hin, .slice A l.length c, .bool week]) := Lib.hid (((Blk.new w _ _).below Hb1.out (by simp)).below Hb2.out (by have := Hb1.out.size; simp at this; omega))
      have Hbw : Hid (Below w.heap.size w w2) := Lib.hid ((((Below.refl _ _).alloc (Nat.le_refl _) _).trans (Hb1.out.mono (by simp))).trans (Hb2.out.mono (by have := Hb1.out.size; simp at this; omega)))
      clear hown hcl hb2 hc1 hf1
      have hws : ∀ (x : Fs.Item) (W : World), Wf x → Calls Tryz.prog 79 #[.agg #[.int .i64 lon, .int .i64 hin, .slice A l.length c, .bool week], .agg #[.bool x.star, .int .i64 (pn x.lo), .int .i64 (pn x.hi), .int .i64 (pn x.step), .int .i64 x.at_, .int .i64 (pa x.hi), .int .i64 (pa x.step)]] W fun e w' => e = .returned (.int .i64 (wrongI (Fs.wrongAt (kind lon hin l week) x))) ∧ Below W.heap.size W w' := fun x W h => ref_wrong lon hin A c l week x W h
      have Hws := Lib.hid hws; clear hws
      have hns : ∀ (x : Fs.Item) (W : World), Wf x → Fs.wrongAt (kind lon hin l week) x = none → Calls Tryz.prog 80 #[.agg #[.int .i64 lon, .int .i64 hin, .slice A l.length c, .bool week], .agg #[.bool x.star, .int .i64 (pn x.lo), .int .i64 (pn x.hi), .int .i64 (pn x.step), .int .i64 x.at_, .int .i64 (pa x.hi), .int .i64 (pa x.step)]] W fun e w' => e = .returned (.int .u64 (Fs.itemSet (kind lon hin l week) x 0)) ∧ Below W.heap.size W w' := fun x W h h' => ref_numbers lon hin A c l week x W Hk.out h h'
      have Hns := Lib.hid hns; clear hns
      go_loopw [11, 12] (fun out i wr => SetL (kind lon hin l week) xs w g #[.int .i64 lon, .int .i64 hin, .slice A l.length c, .bool week] out i wr) (fun _ i _ => xs.length - (intOf i).toNat)
      case atStart => exact ⟨0, 0, by omega, by omega, rfl, rfl, rfl, Hbw.out, HBlk.out, Hcl.out, hg2⟩
      case round =>
        obtain ⟨n, S, hn, hS, rfl, rfl, hset, hbw, hB, hcs, hg⟩ := hrel
        have Hset := Lib.hid hset
        have Hbwr := Lib.hid hbw
        have HB := Lib.hid hB
        have Hcs := Lib.hid hcs
        have hgl := hB.lt
        have hc := hB.cell
        clear hset hbw hB hcs
        by_cases hlt : n < xs.length
        · have hgt := flat_get xs n hlt
          have hxw := Hwf.out xs[n] (List.getElem_mem hlt)
          have hsw := fun a h => setOf_wrong (kind lon hin l week) xs n S a hlt h
          have hsn := fun h => setOf_next (kind lon hin l week) xs n S hlt h
          generalize xs[n] = x at hgt hxw hsw hsn
          have hq : ∀ j u, j < 7 → (cellsR x)[j]? = some u → wr.cell? ⟨g, n * 7 + j, none⟩ = some u := fun j u hj hu => Hcs.out _ _ ((hgt j hj).trans hu)
          have q0 : wr.cell? ⟨g, n * 7, none⟩ = some (.bool x.star) := hq 0 _ (by omega) rfl
          have q1 : wr.cell? ⟨g, n * 7 + 1, none⟩ = some (.int .i64 (pn x.lo)) := hq 1 _ (by omega) rfl
          have q2 : wr.cell? ⟨g, n * 7 + 2, none⟩ = some (.int .i64 (pn x.hi)) := hq 2 _ (by omega) rfl
          have q3 : wr.cell? ⟨g, n * 7 + 3, none⟩ = some (.int .i64 (pn x.step)) := hq 3 _ (by omega) rfl
          have q4 : wr.cell? ⟨g, n * 7 + 4, none⟩ = some (.int .i64 x.at_) := hq 4 _ (by omega) rfl
          have q5 : wr.cell? ⟨g, n * 7 + 5, none⟩ = some (.int .i64 (pa x.hi)) := hq 5 _ (by omega) rfl
          have q6 : wr.cell? ⟨g, n * 7 + 6, none⟩ = some (.int .i64 (pa x.step)) := hq 6 _ (by omega) rfl
          have p0 := hc 0
          have p1 := hc 1
          have p2 := hc 2
          have p3 := hc 3
          simp only [List.getElem?_toArray, List.getElem?_cons_zero, List.getElem?_cons_succ] at p0 p1 p2 p3
          have Hxw := Lib.hid hxw
          have Hsw := Lib.hid hsw
          have Hsn := Lib.hid hsn
          have HW := Lib.hid (fun W => Hws.out x W hxw)
          clear hq hgt hxw hsw hsn hc
          cases hw : Fs.wrongAt (kind lon hin l week) x with
          | some a =>
            have hres := Hpar.out a 0 (by rw [← Hset.out]; exact Hsw.out a hw)
            subst hres
            rw [hw] at HW
            have HW2 : Hid (∀ W : World, Calls Tryz.prog 79 #[.agg #[.int .i64 lon, .int .i64 hin, .slice A l.length c, .bool week], .agg #[.bool x.star, .int .i64 (pn x.lo), .int .i64 (pn x.hi), .int .i64 (pn x.step), .int .i64 x.at_, .int .i64 (pa x.hi), .int .i64 (pa x.step)]] W fun e w' => e = .returned (.int .i64 a) ∧ Below W.heap.size W w') := HW
            clear hw HW
            go_wp2_with fail
            go_still_tail 5, (by kernel_rfl)
            change wpList _ _ _ _ _ wr.drew
            go_wp2_with (first | (go_at_call 79; ((with_reducible refine (HW2.out _).mono ?_)); rintro e w3 ⟨rfl, hb3⟩))
            refine bodyPost_ret (v := .tuple #[.int .u64 0, .bool false, .int .i64 a, .int .i64 2]) (by simp [results, Tryz.results44, go_sem]) rfl ⟨rfl, ?_⟩
            exact Hbwr.out.drew.trans (hb3.mono (Nat.le_of_lt hgl))
          | none =>
            have HW2 : Hid (∀ W : World, Calls Tryz.prog 79 #[.agg #[.int .i64 lon, .int .i64 hin, .slice A l.length c, .bool week], .agg #[.bool x.star, .int .i64 (pn x.lo), .int .i64 (pn x.hi), .int .i64 (pn x.step), .int .i64 x.at_, .int .i64 (pa x.hi), .int .i64 (pa x.step)]] W fun e w' => e = .returned (.int .i64 (-1)) ∧ Below W.heap.size W w') := by rw [hw] at HW; exact HW
            have HN : Hid (∀ W : World, Calls Tryz.prog 80 #[.agg #[.int .i64 lon, .int .i64 hin, .slice A l.length c, .bool week], .agg #[.bool x.star, .int .i64 (pn x.lo), .int .i64 (pn x.hi), .int .i64 (pn x.step), .int .i64 x.at_, .int .i64 (pa x.hi), .int .i64 (pa x.step)]] W fun e w' => e = .returned (.int .u64 (Fs.itemSet (kind lon hin l week) x 0)) ∧ Below W.heap.size W w') := Lib.hid (fun W => Hns.out x W Hxw.out hw)
            have hT := itemSet_lt lon hin l week x Hk.out Hxw.out hw
            have Hnx := Lib.hid (Hset.out.symm.trans (Hsn.out hw))
            generalize Fs.itemSet (kind lon hin l week) x 0 = T at HN hT Hnx
            clear hw HW Hsn Hsw
            go_wp2_with fail
            go_still_tail 5, (by kernel_rfl)
            change wpList _ _ _ _ _ wr.drew
            go_wp2_with (first | (go_at_call 79; ((with_reducible refine (HW2.out _).mono ?_)); rintro e w3 ⟨rfl, hb3⟩; have hp3 : w.heap.size < w3.heap.size := Nat.lt_of_lt_of_le hgl hb3.size; have hg3 : g < w3.heap.size := Nat.lt_of_lt_of_le hg hb3.size; have p0' : w3.cell? ⟨w.heap.size, 0, none⟩ = _ := (hb3.cell (p := ⟨w.heap.size, 0, none⟩) hgl).trans p0; have p1' : w3.cell? ⟨w.heap.size, 1, none⟩ = _ := (hb3.cell (p := ⟨w.heap.size, 1, none⟩) hgl).trans p1; have p2' : w3.cell? ⟨w.heap.size, 2, none⟩ = _ := (hb3.cell (p := ⟨w.heap.size, 2, none⟩) hgl).trans p2; have p3' : w3.cell? ⟨w.heap.size, 3, none⟩ = _ := (hb3.cell (p := ⟨w.heap.size, 3, none⟩) hgl).trans p3; have q0' : w3.cell? ⟨g, n * 7, none⟩ = _ := (hb3.cell (p := ⟨g, n * 7, none⟩) hg).trans q0; have q1' : w3.cell? ⟨g, n * 7 + 1, none⟩ = _ := (hb3.cell (p := ⟨g, n * 7 + 1, none⟩) hg).trans q1; have q2' : w3.cell? ⟨g, n * 7 + 2, none⟩ = _ := (hb3.cell (p := ⟨g, n * 7 + 2, none⟩) hg).trans q2; have q3' : w3.cell? ⟨g, n * 7 + 3, none⟩ = _ := (hb3.cell (p := ⟨g, n * 7 + 3, none⟩) hg).trans q3; have q4' : w3.cell? ⟨g, n * 7 + 4, none⟩ = _ := (hb3.cell (p := ⟨g, n * 7 + 4, none⟩) hg).trans q4; have q5' : w3.cell? ⟨g, n * 7 + 5, none⟩ = _ := (hb3.cell (p := ⟨g, n * 7 + 5, none⟩) hg).trans q5; have q6' : w3.cell? ⟨g, n * 7 + 6, none⟩ = _ := (hb3.cell (p := ⟨g, n * 7 + 6, none⟩) hg).trans q6; clear p0 p1 p2 p3 q0 q1 q2 q3 q4 q5 q6))
            go_region_held3 (fun w' => w'.cell? ⟨w.heap.size, 0, none⟩ = some (.int .i64 lon) ∧ w'.cell? ⟨w.heap.size, 1, none⟩ = some (.int .i64 hin) ∧ w'.cell? ⟨w.heap.size, 2, none⟩ = some (.slice A l.length c) ∧ w'.cell? ⟨w.heap.size, 3, none⟩ = some (.bool week) ∧ w'.cell? ⟨g, n * 7, none⟩ = some (.bool x.star) ∧ w'.cell? ⟨g, n * 7 + 1, none⟩ = some (.int .i64 (pn x.lo)) ∧ w'.cell? ⟨g, n * 7 + 2, none⟩ = some (.int .i64 (pn x.hi)) ∧ w'.cell? ⟨g, n * 7 + 3, none⟩ = some (.int .i64 (pn x.step)) ∧ w'.cell? ⟨g, n * 7 + 4, none⟩ = some (.int .i64 x.at_) ∧ w'.cell? ⟨g, n * 7 + 5, none⟩ = some (.int .i64 (pa x.hi)) ∧ w'.cell? ⟨g, n * 7 + 6, none⟩ = some (.int .i64 (pa x.step))) (first | (exact ⟨(hb4.cell (p := ⟨w.heap.size, 0, none⟩) hp3).trans p0', (hb4.cell (p := ⟨w.heap.size, 1, none⟩) hp3).trans p1', (hb4.cell (p := ⟨w.heap.size, 2, none⟩) hp3).trans p2', (hb4.cell (p := ⟨w.heap.size, 3, none⟩) hp3).trans p3', (hb4.cell (p := ⟨g, n * 7, none⟩) hg3).trans q0', (hb4.cell (p := ⟨g, n * 7 + 1, none⟩) hg3).trans q1', (hb4.cell (p := ⟨g, n * 7 + 2, none⟩) hg3).trans q2', (hb4.cell (p := ⟨g, n * 7 + 3, none⟩) hg3).trans q3', (hb4.cell (p := ⟨g, n * 7 + 4, none⟩) hg3).trans q4', (hb4.cell (p := ⟨g, n * 7 + 5, none⟩) hg3).trans q5', (hb4.cell (p := ⟨g, n * 7 + 6, none⟩) hg3).trans q6'⟩) | go_keep)
              (first | (go_at_call 80; ((with_reducible refine (HN.out _).mono ?_)); rintro e w4 ⟨rfl, hb4⟩))
            have hbw4 : Hid (Below w.heap.size w w4) := Lib.hid ((Hbwr.out.drew.trans (hb3.mono (Nat.le_of_lt hgl))).drew.trans (hb4.mono (Nat.le_of_lt hp3)))
            rename_i hHeld
            have hor := u64_or_nat S T hS hT
            have HB4 : Hid (Blk w4 w.heap.size 93 #[.int .i64 lon, .int .i64 hin, .slice A l.length c, .bool week]) := Lib.hid ((HB.out.drew.below hb3 hgl).drew.below hb4 hp3)
            have HC4 : Hid (∀ j u, (xs.flatMap cellsR)[j]? = some u → w4.cell? ⟨g, j, none⟩ = some u) := Lib.hid (fun j u hj => (hb4.cell (p := ⟨g, j, none⟩) hg3).trans ((hb3.cell (p := ⟨g, j, none⟩) hg).trans (Hcs.out j u hj)))
            have hg4 : g < w4.heap.size := Nat.lt_of_lt_of_le hg3 hb4.size
            clear hHeld p0' p1' p2' p3' q0' q1' q2' q3' q4' q5' q6'
            go_wp2_with fail
            go_roundw
            case rel => exact ⟨n + 1, S ||| T, by omega, or_lt hS hT, by go_num, by rw [hor], Hnx.out.symm, hbw4.out, HB4.out, HC4.out, hg4⟩
            case measure => simp [intOf]; omega
        · have hen : n = xs.length := by omega
          subst hen
          have hres := Hpok.out S (by rw [← Hset.out]; exact setOf_end _ _ _)
          subst hres
          go_wp2_with fail
          refine bodyPost_ret (v := .tuple #[.int .u64 S, .bool (s.toList == [42]), .int .i64 0, .int .i64 0]) (by simp [results, Tryz.results44, go_sem]) rfl ⟨?_, Hbwr.out⟩
          rw [Lib.toList_data]; rfl

end Go.Proofs.YtjnlgaeedcklaaaGreatDoor
