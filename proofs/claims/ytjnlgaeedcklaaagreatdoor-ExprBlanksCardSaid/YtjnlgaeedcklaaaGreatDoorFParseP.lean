/-
  The program's text: Parse.
-/
import Derived.Laws.EntriesVeiled
import Derived.Test.YtjnlgaeedcklaaaGreatDoorFIter
import Derived.Test.YtjnlgaeedcklaaaGreatDoorFReader
set_option linter.unusedVariables false
set_option linter.unusedSimpArgs false
namespace Go.Proofs.YtjnlgaeedcklaaaGreatDoor
open Go.RowKit Go.Shelf
attribute [local go_sem] Oper.semAt_some

/-- A mark among the deferred calls. -/
def mkD (r : Nat) : Deferred := { target := .collected r, args := #[] }

theorem leaves_marks {F : Fence} {n : Nat} {fn : Func} {tmps : Array Value} {R : Ending → World → Prop} {v : Value} {B : Nat} {w0 : World} (hres : ∀ W, (results fn tmps).run Tryz.prog W = .ok v W) (hR : ∀ W, Below B w0 W → R (.returned v) W) :
    ∀ (rs : List Nat) (W : World), Below B w0 W → rs.Nodup → (∀ r ∈ rs, B ≤ r ∧ W.heap[r]? = some (.deferred (some []))) → LeavesInM F n Tryz.prog fn tmps R (rs.map mkD) .returning W := by
  intro rs
  induction rs with
  | nil => intro W hb _ _; exact ⟨v, hres W, hR W hb⟩
  | cons r rs ih =>
    intro W hb hnd hm
    obtain ⟨h1, h2⟩ := hm r List.mem_cons_self
    obtain ⟨hn1, hn2⟩ := List.nodup_cons.1 hnd
    refine ⟨by simp, .inl ⟨r, _, rfl, run_takeDeferred h2, ih _ ?_ hn2 (fun q hq => ?_)⟩⟩
    · have hg := grownBy_putObj' W r (.deferred none)
      exact ⟨hg.os.trans hb.os, hg.tape.trans hb.tape, hg.output.trans hb.output, Nat.le_trans hb.size hg.size, fun i hi => (World.putObj_heap_other (by omega)).trans (hb.block i hi)⟩
    · obtain ⟨h3, h4⟩ := hm q (List.mem_cons_of_mem _ hq)
      exact ⟨h3, (World.putObj_heap_other (by intro e; subst e; exact hn1 hq)).trans h4⟩

/-- A frame of which six slots are known. -/
abbrev frP (u : Nat → Value) (x1 x2 x10 x50 x51 x52 : Value) : Array Value := #[u 0, x1, x2, u 3, u 4, u 5, u 6, u 7, u 8, u 9, x10, u 11, u 12, u 13, u 14, u 15, u 16, u 17, u 18, u 19, u 20, u 21, u 22, u 23, u 24, u 25, u 26, u 27, u 28, u 29, u 30, u 31, u 32, u 33, u 34, u 35, u 36, u 37, u 38, u 39, u 40, u 41, u 42, u 43, u 44, u 45, u 46, u 47, u 48, u 49, x50, x51, x52, u 53, u 54, u 55, u 56, u 57, u 58, u 59, u 60, u 61, u 62, u 63, u 64, u 65, u 66, u 67, u 68, u 69, u 70, u 71, u 72, u 73, u 74, u 75]
theorem frP_ex (t : Array Value) (x1 x2 x10 x50 x51 x52 : Value) (h : t = frP (fun k => t.getD k undef) x1 x2 x10 x50 x51 x52) : ∃ u, t = frP u x1 x2 x10 x50 x51 x52 := ⟨_, h⟩

/-- The state of the loop over the items. -/
def SetLP (kd : Fs.Kind) (xs : List Fs.Item) (w : World) (s : ByteArray) (gs g2 cap : Nat) (pc : Array Value) (a : Act) (wz : World) : Prop :=
  ∃ (n S : Nat) (rs : List Nat), (∃ u, a.tmps = frP u (.string s) (.pointer (some ⟨w.heap.size, 0, none⟩)) (.pointer (some ⟨gs, 0, none⟩)) (.slice (some ⟨g2, 0, none⟩) xs.length cap) (.int .i64 xs.length) (.int .i64 n)) ∧ a.defers = rs.map mkD ∧ n ≤ xs.length ∧ S < 18446744073709551616 ∧ Fs.setOf kd (xs.drop n) S = Fs.setOf kd xs 0 ∧
    Blk wz gs 23 #[.int .u64 S] ∧ Below w.heap.size w wz ∧ Blk wz w.heap.size 66 pc ∧ (∀ j u, (xs.flatMap cellsP)[j]? = some u → wz.cell? ⟨g2, j, none⟩ = some u) ∧ g2 < wz.heap.size ∧
    rs.Nodup ∧ (∀ r ∈ rs, w.heap.size ≤ r ∧ r ≠ gs ∧ wz.heap[r]? = some (.deferred (some [])))

theorem flatP_get (xs : List Fs.Item) (n : Nat) (h : n < xs.length) : ∀ j, j < 10 → (xs.flatMap cellsP)[n * 10 + j]? = (cellsP xs[n])[j]? := by
  have hl : ∀ x : Fs.Item, (cellsP x).length = 10 := by
    rintro ⟨star, at_, lo, hi, st⟩
    rcases lo with _ | ⟨a, b⟩ <;> rcases hi with _ | ⟨c, d⟩ <;> rcases st with _ | ⟨e, f⟩ <;> rfl
  induction xs generalizing n with
  | nil => simp at h
  | cons x xs ih =>
    intro j hj
    rcases n with _ | n
    · rw [List.flatMap_cons, List.getElem?_append_left (by rw [hl]; omega)]; simp
    · rw [List.flatMap_cons, List.getElem?_append_right (by rw [hl]; omega)]
      have := ih n (by simpa using h) j hj
      simp only [List.getElem_cons_succ]
      rw [← this]
      congr 1
      rw [hl]; omega
theorem cellsP_ten (x : Fs.Item) : ∃ (y0 : Bool) (y1 y2 : Int) (y3 : Bool) (y4 y5 : Int) (y6 : Bool) (y7 y8 : Int) (y9 : Bool), cellsP x = [.bool y0, .int .i64 y1, .int .i64 y2, .bool y3, .int .i64 y4, .int .i64 y5, .bool y6, .int .i64 y7, .int .i64 y8, .bool y9] := by
  obtain ⟨star, at_, lo, hi, st⟩ := x
  rcases lo with _ | ⟨a, b⟩ <;> rcases hi with _ | ⟨c, d⟩ <;> rcases st with _ | ⟨e, f⟩ <;> exact ⟨_, _, _, _, _, _, _, _, _, _, rfl⟩

/-- Between two rounds of the loop over an item's numbers. -/
def RoundI (w w4 : World) (gs S : Nat) (pre : List N64) (W : World) : Prop :=
  ∃ T : Nat, T = (pre.map (·.1)).foldl (fun s x => s ||| 2 ^ x) S ∧ T < 18446744073709551616 ∧ Blk W gs 23 #[.int .u64 T] ∧ Krd w4.heap.size gs w4 W ∧ Below w.heap.size w W

theorem roundI_own (w w4 : World) (gs S : Nat) (hw : w.heap.size ≤ w4.heap.size) (hgs : gs < w4.heap.size) : OwnFrom w4.heap.size (RoundI w w4 gs S) := by
  rintro pre A B row ⟨T, h1, h2, h3, h4, h5⟩ hg hr
  have hrow : ∀ i, row = some i → w4.heap.size ≤ i := fun i e => (hr i e).1
  refine ⟨T, h1, h2, (hg.block gs h3.lt (fun e => by have := hrow gs e.symm; omega)).trans h3, ⟨Nat.le_trans h4.1 hg.size, fun i hi hne => (hg.block i (Nat.lt_of_lt_of_le hi h4.1) (fun e => by have := hrow i e.symm; omega)).trans (h4.2 i hi hne)⟩, h5.grown hg h5.size (fun i e => by have := hrow i e; omega)⟩

theorem itemLo_le (lo hi : Nat) (l : List ByteArray) (week : Bool) (x : Fs.Item) (hk : Okk lo hi week) (hx : Wf x) : Fs.itemLo (kind lo hi l week) x ≤ 1000 := by
  obtain ⟨star, at_, xlo, xhi, xst⟩ := x
  obtain ⟨ha, s1, s2, s3, s4⟩ := hx
  obtain ⟨h1, h2, h3⟩ := hk
  simp only at s1 s4
  rcases s4 with ⟨rfl, rfl, rfl⟩ | ⟨rfl, n, rfl⟩
  · simp [Fs.itemLo, kind]; omega
  · simp only [Fs.itemLo, Bool.false_eq_true, if_false, Option.map_some, Option.getD_some]; exact s1.1
theorem itemStep_ok (k : Fs.Kind) (x : Fs.Item) (hx : Wf x) (hw : Fs.wrongAt k x = none) : 0 < Fs.itemStep x ∧ Fs.itemStep x ≤ 1000 := by
  obtain ⟨star, at_, xlo, xhi, xst⟩ := x
  obtain ⟨ha, s1, s2, s3, s4⟩ := hx
  simp only at s3 s4
  rcases xst with _ | ⟨q, c⟩
  · simp [Fs.itemStep]
  · simp only [Fs.itemStep, Option.map_some, Option.getD_some]
    refine ⟨?_, s3.1⟩
    rcases Nat.eq_zero_or_pos q with rfl | h
    · exfalso
      unfold Fs.wrongAt at hw
      simp only at hw
      split at hw
      · rcases s4 with ⟨_, rfl, _⟩ | ⟨_, n, rfl⟩
        · rename_i h; simp at h
        · cases hw
      · split at hw
        · rename_i h
          rcases xhi with _ | ⟨m, b⟩
          · simp at h
          · cases hw
        · split at hw
          · rename_i h
            rcases s4 with ⟨_, rfl, rfl⟩ | ⟨_, n, rfl⟩
            · simp at h
            · cases hw
          · simp at hw
    · exact h

/-- How far the reader is from the end. -/
def rdM (N g : Nat) (wr : World) : Nat :=
  match wr.cell? ⟨g, 5, none⟩, wr.cell? ⟨g, 18, none⟩ with
  | some (.int _ k), some th => 4 * (N - k.toNat) + phase th
  | _, _ => 0

section
variable {lo hi : Int} {A : Option Addr} {c : Nat} {l : List ByteArray} {week : Bool} {s : ByteArray} {w : World} {g : Nat} {th0 : Value} {k : Nat} {th : Value} {wr : World}
theorem RdS.meas (h : RdS lo hi A c l week s w g th0 k th wr) : rdM (s.size + 1) g wr = 4 * (s.size + 1 - k) + phase th0 := by
  obtain ⟨x0, x1, x2, x3, x4, x5, x6, x7, x8, x9, ls, bad, xs, h1, _⟩ := h
  unfold rdM
  rw [h1.cell 5, h1.cell 18]
  rfl
theorem RdS.cell18 (h : RdS lo hi A c l week s w g th0 k th wr) : wr.cell? ⟨g, 18, none⟩ = some th0 ∧ wr.frozen? ⟨g, 18, none⟩ = false := by
  obtain ⟨x0, x1, x2, x3, x4, x5, x6, x7, x8, x9, ls, bad, xs, h1, _⟩ := h
  exact ⟨h1.cell 18, h1.frozen 18⟩
end

theorem neq_fn (f : FuncId) (W : World) : (binOp .neq 122 (.func (.func f) #[] #[]) .nilFunc).run Tryz.prog W = .ok (.bool true) W := by kernel_rfl
theorem neq_nil (W : World) : (binOp .neq 122 .nilFunc .nilFunc).run Tryz.prog W = .ok (.bool false) W := by kernel_rfl

/-- The state of the reader's loop. -/
def RdLoop (lo hi : Int) (A : Option Addr) (c : Nat) (l : List ByteArray) (week : Bool) (s : ByteArray) (w : World) (g : Nat) (wr : World) : Prop :=
  ∃ (k : Nat) (th : Value), RdS lo hi A c l week s w g th k th wr ∧ (th = fnBegin ∨ th = fnSlash ∨ th = fnComma ∨ th = .nilFunc)

set_option maxRecDepth 100000 in
set_option maxHeartbeats 4000000 in
theorem field_Parse (s : ByteArray) (w : World) (lo hi : Int) (A : Option Addr) (c : Nat) (l : List ByteArray) (week : Bool) (h1 : -9223372036854775808 ≤ lo) (h2 : lo ≤ 9223372036854775807) (h3 : -9223372036854775808 ≤ hi) (h4 : hi ≤ 9223372036854775807)
    (hs : s.size ≤ 100000) (hn : l.length ≤ 1000) (hcc : l.length ≤ c) (hA : Names w w.heap.size A l) (hsz : ∀ s ∈ l, s.size ≤ 1000) (hT : Tabs w) :
    Calls Tryz.prog 33 #[.agg #[.int .i64 lo, .int .i64 hi, .slice A l.length c, .bool week], .string s] w fun e w' =>
      e = .returned (retP (Fs.parse (kind lo hi l week) s.data.toList)) ∧ Below w.heap.size w w' := by
  have HA := Lib.hid hA; clear hA
  have HT := Lib.hid hT; clear hT
  have hck : ∀ W, Names W W.heap.size A l → Calls Tryz.prog 63 #[.agg #[.int .i64 lo, .int .i64 hi, .slice A l.length c, .bool week]] W fun e w' => e = .returned (.int .i64 (Fs.errOf (Fs.checkB (kind lo hi l week)))) ∧ Below W.heap.size W w' := fun W hW => field_Check lo hi A c l week W h1 h2 h3 h4 hn hcc hW hsz
  generalize hr : Fs.parse (kind lo hi l week) s.data.toList = r
  cases hb : Fs.checkB (kind lo hi l week) with
  | false =>
    rw [parse_bad _ _ hb] at hr
    subst hr
    rw [hb] at hck
    have HC := Lib.hid hck; clear hck hb hsz
    go_enter Tryz.func33, Tryz.ntmps33
    go_wp2_with (first | (go_at_call 63; ((with_reducible refine (HC.out _ (HA.out.alloc _)).mono ?_)); simp only [Fs.errOf]; rintro e w1 ⟨rfl, hb1⟩))
    refine bodyPost_ret (v := .tuple #[.int .u64 0, .bool false, .int .i64 0, .int .i64 2]) (by simp [results, Tryz.results33, go_sem]) rfl ⟨rfl, ?_⟩
    exact ((Below.refl _ _).alloc (Nat.le_refl _) _).trans (hb1.mono (by simp))
  | true =>
    obtain ⟨b1, b2, b3, b4, b5⟩ := check_bounds hb
    obtain ⟨lon, rfl⟩ := Int.eq_ofNat_of_zero_le b1
    obtain ⟨hin, rfl⟩ := Int.eq_ofNat_of_zero_le b4
    have Hk : Hid (Okk lon hin week) := Lib.hid (by simpa using b3)
    have hpa := fun a xs b S h h' => parse_arg (kind lon hin l week) s.data.toList xs b a S hb h h'
    have hpo := fun xs b S h h' => parse_ok (kind lon hin l week) s.data.toList xs b S hb h h'
    have hpf := fun a h => parse_form (kind lon hin l week) s.data.toList a hb h
    rw [hr] at hpa hpo hpf
    have Hpa := Lib.hid hpa
    have Hpo := Lib.hid hpo
    have Hpf := Lib.hid hpf
    rw [hb] at hck
    have HC := Lib.hid hck; clear hck hsz hb b3 hpa hpo hpf hr
    have hstB := fun W g k wr (hNW : Names W W.heap.size A l) (hTW : Tabs W) (hg : W.heap.size ≤ g) h => rd_begin (lo := lon) (hi := hin) (A := A) (c := c) (l := l) (week := week) (s := s) (w := W) (g := g) (th0 := fnBegin) (k := k) (wr := wr) hs hg hTW b1 b2 hn hNW h
    have hstS := fun W g k wr (hTW : Tabs W) (hg : W.heap.size ≤ g) h => rd_slash (lo := lon) (hi := hin) (A := A) (c := c) (l := l) (week := week) (s := s) (w := W) (g := g) (th0 := fnSlash) (k := k) (wr := wr) hs hg hTW h
    have hstC := fun W g k wr (hg : W.heap.size ≤ g) h => rd_comma (lo := lon) (hi := hin) (A := A) (c := c) (l := l) (week := week) (s := s) (w := W) (g := g) (th0 := fnComma) (k := k) (wr := wr) hs hg h
    have HstB := Lib.hid hstB
    have HstS := Lib.hid hstS
    have HstC := Lib.hid hstC
    clear hstB hstS hstC
    refine callsIn_wide.1 (callsIn_of_wp_marks (F := Fence.wide) (n := 3) Tryz.func33 rfl trivial ?_)
    simp only [Tryz.ntmps33, List.size_toArray, List.length_cons, List.length_nil, Nat.reduceAdd, Nat.reduceSub, Array.replicate_succ, Array.replicate_zero, List.push_toArray, List.append_toArray, List.nil_append, List.cons_append]
    refine wpIn_wide.2 ?_
    generalize hQ : bodyPostM Fence.wide 3 Tryz.prog Tryz.f33 _ = Q
    have HQ := Lib.hid hQ; clear hQ
    go_wp2_with (first | (go_at_call 63; ((with_reducible refine (HC.out _ (HA.out.alloc _)).mono ?_)); simp only [Fs.errOf]; rintro e w1 ⟨rfl, hb1⟩; obtain ⟨hc1, hf1⟩ := bcell hb1))
    have hsz1 : w.heap.size < w1.heap.size := by have := hb1.size; simp at this; omega
    have HN1 : Hid (Names w1 w1.heap.size A l) := Lib.hid ((HA.out.alloc _).below hb1 hb1.size)
    have HT1 : Hid (Tabs w1) := Lib.hid ((HT.out.alloc _).grow hb1)
    have HP1 : Hid (Blk w1 w.heap.size 66 #[.int .i64 lon, .int .i64 hin, .slice A l.length c, .bool week]) := Lib.hid ((Blk.new w _ _).below hb1 (by simp))
    have Hbw1 : Hid (Below w.heap.size w w1) := Lib.hid (((Below.refl _ _).alloc (Nat.le_refl _) _).trans (hb1.mono (by simp)))
    clear hc1 hf1 hb1
    have hne1 := neq_fn
    have hne2 := neq_nil
    go_loopw [] (fun wr => RdLoop lon hin A c l week s w1 w1.heap.size wr) (fun wr => rdM (s.size + 1) w1.heap.size wr)
    case atStart => exact ⟨0, fnBegin, ⟨_, _, _, _, _, _, _, _, _, _, .slice none 0 0, false, [], Blk.new w1 _ _, by omega, World.ownsRow_nil _ _ _ _, (Below.refl _ _).alloc (Nat.le_refl _) _, by simp, .inl ⟨rfl, rfl, ItRel.start _ _, by simp⟩⟩, .inl rfl⟩
    case round =>
      obtain ⟨k, th, hR, hth⟩ := hrel
      rcases hth with rfl | rfl | rfl | rfl
      · have HCa := Lib.hid (HstB.out w1 w1.heap.size k wr HN1.out HT1.out (Nat.le_refl _) hR)
        have hm1 := hR.meas
        have Hm1 := Lib.hid hm1
        obtain ⟨hc18, hf18⟩ := hR.cell18
        clear hR hm1
        go_wp2_with fail
        go_at_call 64
        ((with_reducible refine (HCa.out).mono ?_))
        rintro e w2 ⟨th', k', rfl, hR2, hm2, hth2⟩
        have hsto := hR2.store (Nat.le_refl _)
        have Hst2 := Lib.hid hsto
        have Hm2 := Lib.hid hm2
        obtain ⟨hc18b, hf18b⟩ := hR2.cell18
        clear hR2 hm2 hsto
        rcases hth2 with rfl | rfl | rfl | rfl
        all_goals
          go_wp2_with fail
          go_roundw
        all_goals first
          | (case rel => exact ⟨k', _, Hst2.out, by first | exact .inl rfl | exact .inr (.inl rfl) | exact .inr (.inr (.inl rfl)) | exact .inr (.inr (.inr rfl))⟩)
          | (case measure => rw [Hm1.out, Hst2.out.meas, ph_begin]; exact Hm2.out)
      · have HCa := Lib.hid (HstS.out w1 w1.heap.size k wr HT1.out (Nat.le_refl _) hR)
        have hm1 := hR.meas
        have Hm1 := Lib.hid hm1
        obtain ⟨hc18, hf18⟩ := hR.cell18
        clear hR hm1
        go_wp2_with fail
        go_at_call 101
        ((with_reducible refine (HCa.out).mono ?_))
        rintro e w2 ⟨th', k', rfl, hR2, hm2, hth2⟩
        have hsto := hR2.store (Nat.le_refl _)
        have Hst2 := Lib.hid hsto
        have Hm2 := Lib.hid hm2
        obtain ⟨hc18b, hf18b⟩ := hR2.cell18
        clear hR2 hm2 hsto
        rcases hth2 with rfl | rfl | rfl | rfl
        all_goals
          go_wp2_with fail
          go_roundw
        all_goals first
          | (case rel => exact ⟨k', _, Hst2.out, by first | exact .inl rfl | exact .inr (.inl rfl) | exact .inr (.inr (.inl rfl)) | exact .inr (.inr (.inr rfl))⟩)
          | (case measure => rw [Hm1.out, Hst2.out.meas, ph_slash]; exact Hm2.out)
      · have HCa := Lib.hid (HstC.out w1 w1.heap.size k wr (Nat.le_refl _) hR)
        have hm1 := hR.meas
        have Hm1 := Lib.hid hm1
        obtain ⟨hc18, hf18⟩ := hR.cell18
        clear hR hm1
        go_wp2_with fail
        go_at_call 137
        ((with_reducible refine (HCa.out).mono ?_))
        rintro e w2 ⟨th', k', rfl, hR2, hm2, hth2⟩
        have hsto := hR2.store (Nat.le_refl _)
        have Hst2 := Lib.hid hsto
        have Hm2 := Lib.hid hm2
        obtain ⟨hc18b, hf18b⟩ := hR2.cell18
        clear hR2 hm2 hsto
        rcases hth2 with rfl | rfl | rfl | rfl
        all_goals
          go_wp2_with fail
          go_roundw
        all_goals first
          | (case rel => exact ⟨k', _, Hst2.out, by first | exact .inl rfl | exact .inr (.inl rfl) | exact .inr (.inr (.inl rfl)) | exact .inr (.inr (.inr rfl))⟩)
          | (case measure => rw [Hm1.out, Hst2.out.meas, ph_comma]; exact Hm2.out)
      · obtain ⟨x0, x1, x2, x3, x4, x5, x6, x7, x8, x9, ls, bad, xs, hB, hk, hown, hbwr, hxl, hwh⟩ := hR
        have HB := Lib.hid hB
        have Hown := Lib.hid hown
        have Hbwr := Lib.hid hbwr
        have hgl := hB.lt
        obtain ⟨hc, hf⟩ := hB.facts
        clear hB hown hbwr
        rcases hwh with ⟨h, _⟩ | ⟨h, _⟩ | ⟨h, _⟩ | ⟨_, rfl, hrd⟩ | ⟨_, rfl, hrd⟩
        · cases h
        · cases h
        · cases h
        · have hres := Hpf.out k hrd
          subst hres
          clear hrd
          go_wp2_with fail
          go_quiet (fail)
          go_wp2_with fail
          rw [← HQ.out]
          exact ⟨.tuple #[.int .u64 0, .bool false, .int .i64 k, .int .i64 10], by simp [results, Tryz.results33, go_sem], rfl, below_drewN (Hbw1.out.trans (Hbwr.out.mono (Nat.le_of_lt hsz1))) _⟩
        · have hne := itemsAt_ne _ _ _ _ _ _ hrd
          have hpos : 0 < xs.length := List.length_pos_iff.2 hne
          obtain ⟨g2, cap, rfl, hg1, hg2⟩ := Hown.out.form hpos
          have hcells := Hown.out.cells (g := g2) rfl
          have hcl : ∀ j u, (xs.flatMap cellsP)[j]? = some u → wr.cell? ⟨g2, j, none⟩ = some u := by
            intro j u hj
            have := hcells j u hj
            rcases j with _ | j
            · simpa [Addr.add] using this
            · simpa [Addr.add] using this
          have Hcl := Lib.hid hcl
          have Hwf := Lib.hid (itemsAt_wf (kind lon hin l week) s.data.toList (by rw [← Lib.size_eq]; exact hs) b2 (by simpa [kind] using b5) _ _ xs k (Nat.zero_le _) hrd).1
          have Hrd := Lib.hid hrd
          clear hcells hcl hrd hne
          have HPr : Hid (Blk wr w.heap.size 66 #[.int .i64 lon, .int .i64 hin, .slice A l.length c, .bool week]) := Lib.hid (HP1.out.below Hbwr.out hsz1)
          have Hbww : Hid (Below w.heap.size w wr) := Lib.hid (Hbw1.out.trans (Hbwr.out.mono (Nat.le_of_lt hsz1)))
          go_wp2_with fail
          obtain ⟨gs, hgs⟩ : ∃ gs, wr.heap.size = gs := ⟨_, rfl⟩
          obtain ⟨W2, hW2⟩ : ∃ W2 : World, wr.alloc (.cells #[.int .u64 0] 23) = W2 := ⟨_, rfl⟩
          rw [hW2]
          have HG2 : Hid (Blk W2 gs 23 #[.int .u64 0]) := Lib.hid (hgs ▸ hW2 ▸ Blk.new wr _ _)
          have HP2 : Hid (Blk W2 w.heap.size 66 #[.int .i64 lon, .int .i64 hin, .slice A l.length c, .bool week]) := Lib.hid (hW2 ▸ HPr.out.alloc _)
          have HC2 : Hid (∀ j u, (xs.flatMap cellsP)[j]? = some u → W2.cell? ⟨g2, j, none⟩ = some u) := Lib.hid (fun j u hj => by rw [← hW2, World.cell?_alloc_past _ _ _ hg2]; exact Hcl.out j u hj)
          have Hb2 : Hid (Below w.heap.size w W2) := Lib.hid (hW2 ▸ Hbww.out.alloc Hbww.out.size _)
          have hg22 : g2 < W2.heap.size := by rw [← hW2]; simp; omega
          have hgw : w.heap.size < gs := by omega
          have hgg : g2 < gs := by omega
          rw [hgs]
          clear hgs hW2 hc hf
          refine wp_loop (SetLP (kind lon hin l week) xs w s gs g2 cap #[.int .i64 lon, .int .i64 hin, .slice A l.length c, .bool week]) (fun a _ => xs.length - (intOf (a.tmps.getD 52 undef)).toNat) ?start ?round
          case start => exact ⟨0, 0, [], frP_ex _ _ _ _ _ _ _ rfl, rfl, by omega, by omega, rfl, HG2.out, Hb2.out, HP2.out, HC2.out, hg22, List.nodup_nil, fun r h => by cases h⟩
          case round =>
            rintro ⟨tm, df⟩ wz ⟨n, S, rs, ⟨u, rfl⟩, rfl, hnl, hS, hset, hGz, hbz, hPz, hCz, hg2z, hnd, hmk⟩
            have Hset := Lib.hid hset
            have HGz := Lib.hid hGz
            have Hbz := Lib.hid hbz
            have HPz := Lib.hid hPz
            have HCz := Lib.hid hCz
            have Hmk := Lib.hid hmk
            have Hnd := Lib.hid hnd
            clear hset hGz hbz hPz hCz hmk hnd
            by_cases hlt : n < xs.length
            · have hgt := flatP_get xs n hlt
              have hxw := Hwf.out xs[n] (List.getElem_mem hlt)
              have hsw := fun a h => setOf_wrong (kind lon hin l week) xs n S a hlt h
              have hsn := fun h => setOf_next (kind lon hin l week) xs n S hlt h
              generalize xs[n] = x at hgt hxw hsw hsn
              have hW : ∀ W, Calls Tryz.prog 65 #[.agg #[.int .i64 lon, .int .i64 hin, .slice A l.length c, .bool week], .agg (cellsP x).toArray] W fun e w' => e = .returned (retW (Fs.wrongAt (kind lon hin l week) x)) ∧ Below W.heap.size W w' := fun W => field_wrong lon hin (.slice A l.length c) week l x W (by have := Hk.out.1; have := Hk.out.2.1; omega) Hk.out.2.1 hxw
              have hNm : ∀ W, Calls Tryz.prog 66 #[.agg #[.int .i64 lon, .int .i64 hin, .slice A l.length c, .bool week], .agg (cellsP x).toArray] W (NumsR W lon hin (.slice A l.length c) week (Fs.itemLo (kind lon hin l week) x) (Fs.itemHi (kind lon hin l week) x) (Fs.itemStep x)) := fun W => field_numbers lon hin (.slice A l.length c) week l x W (by have := Hk.out.1; have := Hk.out.2.1; omega) Hk.out.2.1 hxw
              obtain ⟨y0, y1, y2, y3, y4, y5, y6, y7, y8, y9, hy⟩ := cellsP_ten x
              rw [hy] at hgt hW hNm
              have hq : ∀ j u, j < 10 → [.bool y0, .int .i64 y1, .int .i64 y2, .bool y3, .int .i64 y4, .int .i64 y5, .bool y6, .int .i64 y7, .int .i64 y8, .bool y9][j]? = some u → wz.cell? ⟨g2, n * 10 + j, none⟩ = some u := fun j u hj hu => HCz.out _ _ ((hgt j hj).trans hu)
              have q0 : wz.cell? ⟨g2, n * 10, none⟩ = some (.bool y0) := hq 0 _ (by omega) rfl
              have q1 : wz.cell? ⟨g2, n * 10 + 1, none⟩ = some (.int .i64 y1) := hq 1 _ (by omega) rfl
              have q2 : wz.cell? ⟨g2, n * 10 + 2, none⟩ = some (.int .i64 y2) := hq 2 _ (by omega) rfl
              have q3 : wz.cell? ⟨g2, n * 10 + 3, none⟩ = some (.bool y3) := hq 3 _ (by omega) rfl
              have q4 : wz.cell? ⟨g2, n * 10 + 4, none⟩ = some (.int .i64 y4) := hq 4 _ (by omega) rfl
              have q5 : wz.cell? ⟨g2, n * 10 + 5, none⟩ = some (.int .i64 y5) := hq 5 _ (by omega) rfl
              have q6 : wz.cell? ⟨g2, n * 10 + 6, none⟩ = some (.bool y6) := hq 6 _ (by omega) rfl
              have q7 : wz.cell? ⟨g2, n * 10 + 7, none⟩ = some (.int .i64 y7) := hq 7 _ (by omega) rfl
              have q8 : wz.cell? ⟨g2, n * 10 + 8, none⟩ = some (.int .i64 y8) := hq 8 _ (by omega) rfl
              have q9 : wz.cell? ⟨g2, n * 10 + 9, none⟩ = some (.bool y9) := hq 9 _ (by omega) rfl
              have HW := Lib.hid hW
              have HNm := Lib.hid hNm
              have Hxw := Lib.hid hxw
              have Hsw := Lib.hid hsw
              have Hsn := Lib.hid hsn
              have hwz : w.heap.size < wz.heap.size := HPz.out.lt
              obtain ⟨hcp, hfp⟩ := HPz.out.facts
              clear hgt hW hNm hxw hsw hsn hq hy
              cases hwr : Fs.wrongAt (kind lon hin l week) x with
              | some a =>
                have hres := Hpa.out a xs k 0 Hrd.out (by rw [← Hset.out]; exact Hsw.out a hwr)
                subst hres
                have HW2 : Hid (∀ W : World, Calls Tryz.prog 65 #[.agg #[.int .i64 lon, .int .i64 hin, .slice A l.length c, .bool week], .agg #[.bool y0, .int .i64 y1, .int .i64 y2, .bool y3, .int .i64 y4, .int .i64 y5, .bool y6, .int .i64 y7, .int .i64 y8, .bool y9]] W fun e w' => e = .returned (.tuple #[.int .i64 a, .bool true]) ∧ Below W.heap.size W w') := by have := HW.out; rw [hwr] at this; exact Lib.hid this
                clear hwr
                go_wp2_with (go_at_call 65; ((with_reducible refine (HW2.out _).mono ?_)); rintro e w3 ⟨rfl, hb3⟩)
                rw [← HQ.out]
                have hb3' : Below wz.heap.size wz w3 := ((Below.refl _ _).alloc (Nat.le_refl _) _).trans (hb3.mono (by simp))
                refine leaves_marks (v := .tuple #[.int .u64 0, .bool false, .int .i64 a, .int .i64 2]) (B := w.heap.size) (w0 := w) (fun W => by simp [results, Tryz.results33, go_sem]) (fun W hW => ⟨rfl, hW⟩) rs w3 (Hbz.out.trans (hb3'.mono (Nat.le_of_lt hwz))) Hnd.out (fun r h => ⟨(Hmk.out r h).1, ?_⟩)
                have h2 := (Hmk.out r h).2.2
                exact (hb3'.block r (Array.getElem?_eq_some_iff.1 h2).1).trans h2
              | none =>
                have HW2 : Hid (∀ W : World, Calls Tryz.prog 65 #[.agg #[.int .i64 lon, .int .i64 hin, .slice A l.length c, .bool week], .agg #[.bool y0, .int .i64 y1, .int .i64 y2, .bool y3, .int .i64 y4, .int .i64 y5, .bool y6, .int .i64 y7, .int .i64 y8, .bool y9]] W fun e w' => e = .returned (.tuple #[.int .i64 0, .bool false]) ∧ Below W.heap.size W w') := by have := HW.out; rw [hwr] at this; exact Lib.hid this
                have Hwr := Lib.hid hwr
                clear hwr
                go_wp2_with (first
                  | (go_at_call 65; ((with_reducible refine (HW2.out _).mono ?_)); rintro e w3 ⟨rfl, hb3⟩; obtain ⟨hc3, hf3⟩ := bcell hb3)
                  | (go_at_call 66; ((with_reducible refine (HNm.out _).mono ?_)); rintro e w4 ⟨bl, bh, bs, bp, rfl, hBl, hBh, hBs, hBp, hb4, l1, l2, l3, l4⟩))
                have hLo := itemLo_le lon hin l week x Hk.out Hxw.out
                have hHi := itemHi_le lon hin l week x Hk.out Hxw.out Hwr.out
                have hSt := itemStep_ok (kind lon hin l week) x Hxw.out Hwr.out
                have hset2 := itemSet_or (kind lon hin l week) x S
                have hnx := Hsn.out Hwr.out
                rw [← hset2] at hnx
                have hslt : Fs.itemSet (kind lon hin l week) x S < 18446744073709551616 := by rw [hset2]; exact or_lt hS (itemSet_lt lon hin l week x Hk.out Hxw.out Hwr.out)
                have hfold : Fs.itemSet (kind lon hin l week) x S = (numsOf week (Fs.itemHi (kind lon hin l week) x) (Fs.itemStep x) (Fs.itemHi (kind lon hin l week) x + 1 - Fs.itemLo (kind lon hin l week) x) (Fs.itemLo (kind lon hin l week) x)).foldl (fun s x => s ||| 2 ^ x) S := setFrom_nums _ _ _ _ _ _
                generalize Fs.itemSet (kind lon hin l week) x S = S2 at hnx hslt hfold
                generalize Fs.itemLo (kind lon hin l week) x = L at hBl hLo hfold
                generalize Fs.itemHi (kind lon hin l week) x = H at hBh hHi hfold
                generalize Fs.itemStep x = ST at hBs hSt hfold
                obtain ⟨hSt0, hSt1⟩ := hSt
                have Hfold := Lib.hid hfold
                have Hnx := Lib.hid (Hset.out.symm.trans hnx)
                have hgz := HGz.out.lt
                have hb3' : Hid (Below wz.heap.size wz w3) := Lib.hid (((Below.refl _ _).alloc (Nat.le_refl _) _).trans (hb3.mono (by simp)))
                have hb34 : Hid (Below wz.heap.size wz w4) := Lib.hid (hb3'.out.trans (hb4.mono hb3'.out.size))
                have hz3 : wz.heap.size < w3.heap.size := by have := hb3.size; simp at this; omega
                have hz4 := hb4.size
                have HG4 : Hid (Blk w4 gs 23 #[.int .u64 S]) := Lib.hid (HGz.out.below hb34.out hgz)
                have Hb4 : Hid (Below w.heap.size w w4) := Lib.hid (Hbz.out.trans (hb34.out.mono (Nat.le_of_lt hwz)))
                have HNS : Hid (SeqStopsK Fence.wide 2 Tryz.prog 105 #[.pointer (some ⟨bl, 0, none⟩), .pointer (some ⟨bh, 0, none⟩), .pointer (some ⟨bs, 0, none⟩), .pointer (some ⟨bp, 0, none⟩)] (fun x : N64 => #[.int .i64 x.1]) (Krd w4.heap.size gs) (fun ys => ys.map (·.1) = numsOf week H ST (H + 1 - L) L) (fun _ => True) 100000 w4) :=
                  Lib.hid (nums_stops Fence.wide 2 trivial rfl (by omega) bl bh bs bp gs L H ST lon hin (.slice A l.length c) week w4 hLo hHi hSt0 hSt1 (by omega) (by omega) (by omega) (by omega) hBl hBh hBs hBp)
                clear hBl hBh hBs hBp hb4 hc3 hf3 hb3 hcp hfp q0 q1 q2 q3 q4 q5 q6 q7 q8 q9 hfold hnx hset2
                refine (wpIn_wide (n := 3)).1 ?_
                refine wpIn_rangeFunc_ownG (F := Fence.wide) (n := 3) rfl (by omega) (gf := 105) (lb := #[.pointer (some ⟨bl, 0, none⟩), .pointer (some ⟨bh, 0, none⟩), .pointer (some ⟨bs, 0, none⟩), .pointer (some ⟨bp, 0, none⟩)]) rfl trivial (enters_of Tryz.func105 (by kernel_rfl) rfl) HNS.out (fun h k => h.trans k) ?hKb (Below.refl _ _) (fun _ => rfl)
                  (RoundI w w4 gs S) (fun _ _ _ => False) (roundI_own w w4 gs S (by omega) HG4.out.lt) (fun _ _ _ _ _ h _ _ => h) ⟨S, rfl, hS, HG4.out, Krd.refl _ _ _, Hb4.out⟩ ?aa ?assign ?body ?done ?stop
                case hKb => exact fun W l o o' hl _ _ _ => ⟨by simp, fun i hi _ => World.putObj_heap_other (by omega)⟩
                case assign =>
                  intro l x W K hK
                  gi_wp2
                  exact hK
                case body =>
                  rintro l pre ⟨xv, hxv⟩ W ⟨T, hT1, hT2, hT3, hT4, hT5⟩ hlen
                  have HT1' := Lib.hid hT1
                  have HT3 := Lib.hid hT3
                  have HT4 := Lib.hid hT4
                  have HT5 := Lib.hid hT5
                  obtain ⟨hcg, hfg⟩ := hT3.facts
                  have hor := or_bit T xv hT2 hxv
                  have hmix : Tryz.prog.follows .mixedOrders = true := by kernel_rfl
                  clear hT1 hT3 hT4 hT5
                  gi_wp2
                  gi_region_with_o (fail)
                  all_goals
                    gi_wp2
                    refine ⟨((KeepsOthers.setCell W _ _).trans (KeepsOthers.drew _)).from _, ⟨by simp [World.drew], fun i hi hne => Below.heap_setCell W _ _ i hne⟩, T ||| 2 ^ xv, ?_, or_lt hT2 (pow_lt hxv), (HT3.out.set_ 0 _).drew, HT4.out.trans ⟨by simp [World.drew], fun i hi hne => Below.heap_setCell W _ _ i hne⟩, (HT5.out.setCell (by show w.heap.size ≤ gs; omega) _).drew⟩
                    rw [HT1'.out, List.map_append, List.foldl_append]
                    rfl
                case done =>
                  rintro D ys W hD hys ⟨T, hT1, hT2, hT3, hT4, hT5⟩ hK
                  have hTS : T = S2 := by rw [hT1, hys, Hfold.out]
                  subst hTS
                  have hlt4 : ∀ r, r ∈ rs → r < wz.heap.size := fun r h => (Array.getElem?_eq_some_iff.1 (Hmk.out r h).2.2).1
                  have hkeep : ∀ i, i < wz.heap.size → i ≠ gs → W.heap[i]? = wz.heap[i]? := fun i h1 h2 => (hT4.2 i (by omega) h2).trans (hb34.out.block i h1)
                  have hmk2 : ∀ r ∈ D :: rs, w.heap.size ≤ r ∧ r ≠ gs ∧ W.heap[r]? = some (.deferred (some [])) := by
                    intro r hr
                    rcases List.mem_cons.1 hr with rfl | hr
                    · exact ⟨by omega, by omega, hK⟩
                    · obtain ⟨m1, m2, m3⟩ := Hmk.out r hr
                      exact ⟨m1, m2, (hkeep r (hlt4 r hr) m2).trans m3⟩
                  have hnd2 : (D :: rs).Nodup := List.nodup_cons.2 ⟨fun h => by have := hlt4 D h; omega, Hnd.out⟩
                  have hPW : Blk W w.heap.size 66 #[.int .i64 lon, .int .i64 hin, .slice A l.length c, .bool week] := (hkeep _ hwz (by omega)).trans HPz.out
                  have hCW : ∀ j u, (xs.flatMap cellsP)[j]? = some u → W.cell? ⟨g2, j, none⟩ = some u := fun j u hj => (World.cell?_of_block (hkeep g2 hg2z (by omega))).trans (HCz.out j u hj)
                  have hg2W : g2 < W.heap.size := by have := hT4.1; omega
                  have Hmk2 := Lib.hid hmk2
                  have Hnd2 := Lib.hid hnd2
                  have HPW := Lib.hid hPW
                  have HCW := Lib.hid hCW
                  have HTW := Lib.hid hT3
                  have HBW := Lib.hid hT5
                  clear hT1 hT3 hT4 hT5 hK hys hkeep hmk2 hnd2 hPW hCW
                  go_wp2_with fail
                  refine ⟨⟨n + 1, T, D :: rs, frP_ex _ _ _ _ _ _ _ rfl, rfl, hlt, hslt, Hnx.out.symm, HTW.out, HBW.out, HPW.out, HCW.out, hg2W, Hnd2.out, Hmk2.out⟩, ?_⟩
                  simp [intOf]
                  omega
                case stop =>
                  rintro D c pre W _ _ h _
                  exact h.elim
            · obtain rfl : n = xs.length := by omega
              have hres := Hpo.out xs k S Hrd.out (by rw [← Hset.out]; exact setOf_end _ _ _)
              subst hres
              obtain ⟨hcg, hfg⟩ := HGz.out.facts
              go_wp2_with fail
              rw [← HQ.out]
              refine leaves_marks (v := .tuple #[.int .u64 S, .bool (s.toList == [42]), .int .i64 0, .int .i64 0]) (B := w.heap.size) (w0 := w) (fun W => by simp [results, Tryz.results33, go_sem]) (fun W hW => ⟨by rw [Lib.toList_data]; rfl, hW⟩) rs wz Hbz.out Hnd.out (fun r h => ⟨(Hmk.out r h).1, (Hmk.out r h).2.2⟩)

end Go.Proofs.YtjnlgaeedcklaaaGreatDoor
