/-
  The program's reader: the state comma.
-/
import Derived.Test.YtjnlgaeedcklaaaGreatDoorFRd6
import Derived.Deep.RegionLaw
import Derived.Deep.AppendLies
import Derived.OwnWalk
set_option linter.unusedVariables false
set_option linter.unusedSimpArgs false
namespace Go.Proofs.YtjnlgaeedcklaaaGreatDoor
open Go.RowKit

theorem info_item : (Tryz.prog.info? 120).map (fun i => (i.zero, i.size, i.bytes)) = some (some (.agg #[.bool false, .int .i64 0, .int .i64 0, .bool false, .int .i64 0, .int .i64 0, .bool false, .int .i64 0, .int .i64 0, .bool false]), 10, 80) := by kernel_rfl

set_option maxRecDepth 100000 in
set_option maxHeartbeats 2000000 in
theorem st_comma_end (g Bs n : Nat) (w : World) (lo hi : Int) (nm : Value) (week : Bool) (s : ByteArray) (k : Nat) (x0 x1 x2 x3 x4 x5 x6 x7 x8 x9 : Value) (ls b th : Value) (xs : List Value) (hs : s.size ≤ 100000) (hk : k ≤ s.size)
    (hx : ∀ u ∈ [x0, x1, x2, x3, x4, x5, x6, x7, x8, x9], u.oneCell' = true)
    (he : k = s.size)
    (hown : w.ownsRow Bs 120 10 ls n xs) (hn : n ≤ 100000) (hBs : Bs ≤ w.heap.size)
    (hB : Blk w g 124 #[.int .i64 lo, .int .i64 hi, nm, .bool week, .string s, .int .i64 k, x0, x1, x2, x3, x4, x5, x6, x7, x8, x9, ls, b, th]) :
    Calls Tryz.prog 137 #[.pointer (some ⟨g, 0, none⟩)] w fun e w' =>
      e = .returned .nilFunc ∧ ∃ ls', Blk w' g 124 #[.int .i64 lo, .int .i64 hi, nm, .bool week, .string s, .int .i64 k, x0, x1, x2, x3, x4, x5, x6, x7, x8, x9, ls', b, th] ∧ w'.ownsRow Bs 120 10 ls' (n + 1) (xs ++ [x0, x1, x2, x3, x4, x5, x6, x7, x8, x9]) ∧ Kp (fun i => i = g ∨ ls.ownBlock = some i) w w' ∧ (∀ i, ls'.ownBlock = some i → ls.ownBlock = some i ∨ w.heap.size ≤ i) := by
  have HB := Lib.hid hB
  have Hown := Lib.hid hown
  have Hx := Lib.hid hx
  have hgl := hB.lt
  obtain ⟨i0, hi0, hz0, hz1, hz2⟩ := info_parts info_item
  have hc16 : w.cell? ⟨g, 16, none⟩ = some ls := hB.cell 16
  have h6 : w.cell? ⟨g, 6, none⟩ = some x0 := hB.cell 6
  have h7 : w.cell? ⟨g, 7, none⟩ = some x1 := hB.cell 7
  have h8 : w.cell? ⟨g, 8, none⟩ = some x2 := hB.cell 8
  have h9 : w.cell? ⟨g, 9, none⟩ = some x3 := hB.cell 9
  have h10 : w.cell? ⟨g, 10, none⟩ = some x4 := hB.cell 10
  have h11 : w.cell? ⟨g, 11, none⟩ = some x5 := hB.cell 11
  have h12 : w.cell? ⟨g, 12, none⟩ = some x6 := hB.cell 12
  have h13 : w.cell? ⟨g, 13, none⟩ = some x7 := hB.cell 13
  have h14 : w.cell? ⟨g, 14, none⟩ = some x8 := hB.cell 14
  have h15 : w.cell? ⟨g, 15, none⟩ = some x9 := hB.cell 15
  have hf16 : w.frozen? ⟨g, 16, none⟩ = false := hB.frozen 16
  have hne : ls.ownBlock ≠ some g := own_ne hown hB (by decide)
  have Hhe := Lib.hid he
  clear hB hown hx he
  go_enter Tryz.func137, Tryz.ntmps137
  go_wp2
  go_region_law (refine step_append_lies _ (by rfl) _ _ _ (by rfl) Bs 120 i0 _ 10 80 Tryz.underlying121 hi0 hz0 hz1 hz2 rfl (by omega) ls n xs (by rfl) ((Hown.out.alloc _).drew) ⟨w.heap.size, 0, none⟩ 1 1 [x0, x1, x2, x3, x4, x5, x6, x7, x8, x9] (by rfl) (by rfl) (World.news_of_block (cs := #[x0, x1, x2, x3, x4, x5, x6, x7, x8, x9]) (t := 120) (fr := (0, 0)) (heap_alloc_new w _)) Hx.out (by omega) (by unfold maxLen; omega) (by omega) (by simp; omega) (w.heap.size + 1) (by simp) ?_; intro gg cap w1 hown1 hgrow hat hlt; have HB1 : Hid (Blk w1 g 124 #[.int .i64 lo, .int .i64 hi, nm, .bool week, .string s, .int .i64 k, x0, x1, x2, x3, x4, x5, x6, x7, x8, x9, ls, b, th]) := Lib.hid ((HB.out.alloc _).drew.kp (kp_grown hgrow) hne); have q1 : w1.cell? ⟨g, 16, none⟩ = some ls := HB1.out.cell 16; have q2 : w1.frozen? ⟨g, 16, none⟩ = false := HB1.out.frozen 16)
  all_goals
    obtain ⟨W2, hW2⟩ : ∃ W2 : World, w1.setCell ⟨g, 16, none⟩ (.slice (some ⟨gg, 0, none⟩) (n + 1) cap) = W2 := ⟨_, rfl⟩
    have hgg : gg ≠ g := fun e => own_ne hown1 HB1.out (by decide) (by rw [← e]; rfl)
    have HB2 : Hid (Blk W2 g 124 #[.int .i64 lo, .int .i64 hi, nm, .bool week, .string s, .int .i64 k, x0, x1, x2, x3, x4, x5, x6, x7, x8, x9, .slice (some ⟨gg, 0, none⟩) (n + 1) cap, b, th]) := Lib.hid (hW2 ▸ HB1.out.set_ 16 _)
    have HO2 : Hid (W2.ownsRow Bs 120 10 (.slice (some ⟨gg, 0, none⟩) (n + 1) cap) (n + 1) (xs ++ [x0, x1, x2, x3, x4, x5, x6, x7, x8, x9])) := Lib.hid (hW2 ▸ own_kp hown1 (Kg.set_ (Kp.refl _ _) 16 _) (fun i hi => by subst hi; simp [Value.ownBlock]; exact hgg))
    have HK2 : Hid (Kp (fun i => i = g ∨ ls.ownBlock = some i) w W2) := Lib.hid (hW2 ▸ Kp.set_ ((((Kp.refl _ _).alloc _).drew).trans ((kp_grown hgrow).mono (fun _ h => .inr h))) (.inl (.inl rfl)) _)
    have hat2 : ∀ i, (Value.slice (some ⟨gg, 0, none⟩) (n + 1) cap).ownBlock = some i → ls.ownBlock = some i ∨ w.heap.size ≤ i := by
      intro i hi
      simp only [Value.ownBlock, Option.some.injEq] at hi
      subst hi
      rcases hat with h | h
      · exact .inl h
      · exact .inr (by omega)
    have Hat := Lib.hid hat2
    go_wp2
    rw [hW2]
    clear hc16 h6 h7 h8 h9 h10 h11 h12 h13 h14 h15 hf16 hne hown1 hgrow hat hlt HB1 q1 q2 hW2 hat2
    obtain ⟨hc, hf⟩ := HB2.out.facts
    have e1 : (k == s.size) = true := by rw [beq_iff_eq]; exact Hhe.out
    have e2 : ((k : Int) == (s.size : Int)) = true := by rw [beq_iff_eq]; have := Hhe.out; omega
    go_quiet (fail)
    go_wp2
    go_ret
    exact ⟨rfl, _, HB2.out.drewN _, HO2.out, HK2.out.drewN _, Hat.out⟩

set_option maxRecDepth 100000 in
set_option maxHeartbeats 2000000 in
theorem st_comma_next (g Bs n : Nat) (w : World) (lo hi : Int) (nm : Value) (week : Bool) (s : ByteArray) (k : Nat) (x0 x1 x2 x3 x4 x5 x6 x7 x8 x9 : Value) (ls b th : Value) (xs : List Value) (hs : s.size ≤ 100000) (hk : k ≤ s.size)
    (hx : ∀ u ∈ [x0, x1, x2, x3, x4, x5, x6, x7, x8, x9], u.oneCell' = true)
    (he : k < s.size) (hq : Fs.byteAt s.data.toList k 44 = true)
    (hown : w.ownsRow Bs 120 10 ls n xs) (hn : n ≤ 100000) (hBs : Bs ≤ w.heap.size)
    (hB : Blk w g 124 #[.int .i64 lo, .int .i64 hi, nm, .bool week, .string s, .int .i64 k, x0, x1, x2, x3, x4, x5, x6, x7, x8, x9, ls, b, th]) :
    Calls Tryz.prog 137 #[.pointer (some ⟨g, 0, none⟩)] w fun e w' =>
      e = .returned fnBegin ∧ ∃ ls', Blk w' g 124 #[.int .i64 lo, .int .i64 hi, nm, .bool week, .string s, .int .i64 (k + 1 : Nat), x0, x1, x2, x3, x4, x5, x6, x7, x8, x9, ls', b, th] ∧ w'.ownsRow Bs 120 10 ls' (n + 1) (xs ++ [x0, x1, x2, x3, x4, x5, x6, x7, x8, x9]) ∧ Kp (fun i => i = g ∨ ls.ownBlock = some i) w w' ∧ (∀ i, ls'.ownBlock = some i → ls.ownBlock = some i ∨ w.heap.size ≤ i) := by
  have HB := Lib.hid hB
  have Hown := Lib.hid hown
  have Hx := Lib.hid hx
  have hgl := hB.lt
  obtain ⟨i0, hi0, hz0, hz1, hz2⟩ := info_parts info_item
  have hc16 : w.cell? ⟨g, 16, none⟩ = some ls := hB.cell 16
  have h6 : w.cell? ⟨g, 6, none⟩ = some x0 := hB.cell 6
  have h7 : w.cell? ⟨g, 7, none⟩ = some x1 := hB.cell 7
  have h8 : w.cell? ⟨g, 8, none⟩ = some x2 := hB.cell 8
  have h9 : w.cell? ⟨g, 9, none⟩ = some x3 := hB.cell 9
  have h10 : w.cell? ⟨g, 10, none⟩ = some x4 := hB.cell 10
  have h11 : w.cell? ⟨g, 11, none⟩ = some x5 := hB.cell 11
  have h12 : w.cell? ⟨g, 12, none⟩ = some x6 := hB.cell 12
  have h13 : w.cell? ⟨g, 13, none⟩ = some x7 := hB.cell 13
  have h14 : w.cell? ⟨g, 14, none⟩ = some x8 := hB.cell 14
  have h15 : w.cell? ⟨g, 15, none⟩ = some x9 := hB.cell 15
  have hf16 : w.frozen? ⟨g, 16, none⟩ = false := hB.frozen 16
  have hne : ls.ownBlock ≠ some g := own_ne hown hB (by decide)
  have Hhe := Lib.hid he
  have Hhq := Lib.hid hq
  clear hB hown hx he hq
  go_enter Tryz.func137, Tryz.ntmps137
  go_wp2
  go_region_law (refine step_append_lies _ (by rfl) _ _ _ (by rfl) Bs 120 i0 _ 10 80 Tryz.underlying121 hi0 hz0 hz1 hz2 rfl (by omega) ls n xs (by rfl) ((Hown.out.alloc _).drew) ⟨w.heap.size, 0, none⟩ 1 1 [x0, x1, x2, x3, x4, x5, x6, x7, x8, x9] (by rfl) (by rfl) (World.news_of_block (cs := #[x0, x1, x2, x3, x4, x5, x6, x7, x8, x9]) (t := 120) (fr := (0, 0)) (heap_alloc_new w _)) Hx.out (by omega) (by unfold maxLen; omega) (by omega) (by simp; omega) (w.heap.size + 1) (by simp) ?_; intro gg cap w1 hown1 hgrow hat hlt; have HB1 : Hid (Blk w1 g 124 #[.int .i64 lo, .int .i64 hi, nm, .bool week, .string s, .int .i64 k, x0, x1, x2, x3, x4, x5, x6, x7, x8, x9, ls, b, th]) := Lib.hid ((HB.out.alloc _).drew.kp (kp_grown hgrow) hne); have q1 : w1.cell? ⟨g, 16, none⟩ = some ls := HB1.out.cell 16; have q2 : w1.frozen? ⟨g, 16, none⟩ = false := HB1.out.frozen 16)
  all_goals
    obtain ⟨W2, hW2⟩ : ∃ W2 : World, w1.setCell ⟨g, 16, none⟩ (.slice (some ⟨gg, 0, none⟩) (n + 1) cap) = W2 := ⟨_, rfl⟩
    have hgg : gg ≠ g := fun e => own_ne hown1 HB1.out (by decide) (by rw [← e]; rfl)
    have HB2 : Hid (Blk W2 g 124 #[.int .i64 lo, .int .i64 hi, nm, .bool week, .string s, .int .i64 k, x0, x1, x2, x3, x4, x5, x6, x7, x8, x9, .slice (some ⟨gg, 0, none⟩) (n + 1) cap, b, th]) := Lib.hid (hW2 ▸ HB1.out.set_ 16 _)
    have HO2 : Hid (W2.ownsRow Bs 120 10 (.slice (some ⟨gg, 0, none⟩) (n + 1) cap) (n + 1) (xs ++ [x0, x1, x2, x3, x4, x5, x6, x7, x8, x9])) := Lib.hid (hW2 ▸ own_kp hown1 (Kg.set_ (Kp.refl _ _) 16 _) (fun i hi => by subst hi; simp [Value.ownBlock]; exact hgg))
    have HK2 : Hid (Kp (fun i => i = g ∨ ls.ownBlock = some i) w W2) := Lib.hid (hW2 ▸ Kp.set_ ((((Kp.refl _ _).alloc _).drew).trans ((kp_grown hgrow).mono (fun _ h => .inr h))) (.inl (.inl rfl)) _)
    have hat2 : ∀ i, (Value.slice (some ⟨gg, 0, none⟩) (n + 1) cap).ownBlock = some i → ls.ownBlock = some i ∨ w.heap.size ≤ i := by
      intro i hi
      simp only [Value.ownBlock, Option.some.injEq] at hi
      subst hi
      rcases hat with h | h
      · exact .inl h
      · exact .inr (by omega)
    have Hat := Lib.hid hat2
    go_wp2
    rw [hW2]
    clear hc16 h6 h7 h8 h9 h10 h11 h12 h13 h14 h15 hf16 hne hown1 hgrow hat hlt HB1 q1 q2 hW2 hat2
    obtain ⟨hc, hf⟩ := HB2.out.facts
    have e1 : (k == s.size) = false := by rw [beq_eq_false_iff_ne]; have := Hhe.out; omega
    have e2 : ((k : Int) == (s.size : Int)) = false := by rw [beq_eq_false_iff_ne]; have := Hhe.out; omega
    go_quiet (fail)
    go_wp2_with (go_at_call 100; refine (rd_next_yes g 44 _ lo hi nm week s k _ _ _ _ _ _ _ _ _ _ _ _ _ hs hk Hhq.out (HB2.out.drewN _)).mono ?_; rintro e w3 ⟨rfl, hk3, hB3⟩)
    go_ret
    exact ⟨rfl, _, hB3, own_kp HO2.out ((((Kp.refl _ _).drewN _).trans hk3 : Kg g W2 w3)) (fun i hi => by subst hi; simp [Value.ownBlock]; exact hgg), (HK2.out.drewN _).trans (hk3.mono (fun _ h => .inl h)), Hat.out⟩

set_option maxRecDepth 100000 in
set_option maxHeartbeats 2000000 in
theorem st_comma_bad (g Bs n : Nat) (w : World) (lo hi : Int) (nm : Value) (week : Bool) (s : ByteArray) (k : Nat) (x0 x1 x2 x3 x4 x5 x6 x7 x8 x9 : Value) (ls b th : Value) (xs : List Value) (hs : s.size ≤ 100000) (hk : k ≤ s.size)
    (hx : ∀ u ∈ [x0, x1, x2, x3, x4, x5, x6, x7, x8, x9], u.oneCell' = true)
    (he : k < s.size) (hq : Fs.byteAt s.data.toList k 44 = false)
    (hown : w.ownsRow Bs 120 10 ls n xs) (hn : n ≤ 100000) (hBs : Bs ≤ w.heap.size)
    (hB : Blk w g 124 #[.int .i64 lo, .int .i64 hi, nm, .bool week, .string s, .int .i64 k, x0, x1, x2, x3, x4, x5, x6, x7, x8, x9, ls, b, th]) :
    Calls Tryz.prog 137 #[.pointer (some ⟨g, 0, none⟩)] w fun e w' =>
      e = .returned .nilFunc ∧ ∃ ls', Blk w' g 124 #[.int .i64 lo, .int .i64 hi, nm, .bool week, .string s, .int .i64 k, x0, x1, x2, x3, x4, x5, x6, x7, x8, x9, ls', .bool true, th] ∧ w'.ownsRow Bs 120 10 ls' (n + 1) (xs ++ [x0, x1, x2, x3, x4, x5, x6, x7, x8, x9]) ∧ Kp (fun i => i = g ∨ ls.ownBlock = some i) w w' ∧ (∀ i, ls'.ownBlock = some i → ls.ownBlock = some i ∨ w.heap.size ≤ i) := by
  have HB := Lib.hid hB
  have Hown := Lib.hid hown
  have Hx := Lib.hid hx
  have hgl := hB.lt
  obtain ⟨i0, hi0, hz0, hz1, hz2⟩ := info_parts info_item
  have hc16 : w.cell? ⟨g, 16, none⟩ = some ls := hB.cell 16
  have h6 : w.cell? ⟨g, 6, none⟩ = some x0 := hB.cell 6
  have h7 : w.cell? ⟨g, 7, none⟩ = some x1 := hB.cell 7
  have h8 : w.cell? ⟨g, 8, none⟩ = some x2 := hB.cell 8
  have h9 : w.cell? ⟨g, 9, none⟩ = some x3 := hB.cell 9
  have h10 : w.cell? ⟨g, 10, none⟩ = some x4 := hB.cell 10
  have h11 : w.cell? ⟨g, 11, none⟩ = some x5 := hB.cell 11
  have h12 : w.cell? ⟨g, 12, none⟩ = some x6 := hB.cell 12
  have h13 : w.cell? ⟨g, 13, none⟩ = some x7 := hB.cell 13
  have h14 : w.cell? ⟨g, 14, none⟩ = some x8 := hB.cell 14
  have h15 : w.cell? ⟨g, 15, none⟩ = some x9 := hB.cell 15
  have hf16 : w.frozen? ⟨g, 16, none⟩ = false := hB.frozen 16
  have hne : ls.ownBlock ≠ some g := own_ne hown hB (by decide)
  have Hhe := Lib.hid he
  have Hhq := Lib.hid hq
  clear hB hown hx he hq
  go_enter Tryz.func137, Tryz.ntmps137
  go_wp2
  go_region_law (refine step_append_lies _ (by rfl) _ _ _ (by rfl) Bs 120 i0 _ 10 80 Tryz.underlying121 hi0 hz0 hz1 hz2 rfl (by omega) ls n xs (by rfl) ((Hown.out.alloc _).drew) ⟨w.heap.size, 0, none⟩ 1 1 [x0, x1, x2, x3, x4, x5, x6, x7, x8, x9] (by rfl) (by rfl) (World.news_of_block (cs := #[x0, x1, x2, x3, x4, x5, x6, x7, x8, x9]) (t := 120) (fr := (0, 0)) (heap_alloc_new w _)) Hx.out (by omega) (by unfold maxLen; omega) (by omega) (by simp; omega) (w.heap.size + 1) (by simp) ?_; intro gg cap w1 hown1 hgrow hat hlt; have HB1 : Hid (Blk w1 g 124 #[.int .i64 lo, .int .i64 hi, nm, .bool week, .string s, .int .i64 k, x0, x1, x2, x3, x4, x5, x6, x7, x8, x9, ls, b, th]) := Lib.hid ((HB.out.alloc _).drew.kp (kp_grown hgrow) hne); have q1 : w1.cell? ⟨g, 16, none⟩ = some ls := HB1.out.cell 16; have q2 : w1.frozen? ⟨g, 16, none⟩ = false := HB1.out.frozen 16)
  all_goals
    obtain ⟨W2, hW2⟩ : ∃ W2 : World, w1.setCell ⟨g, 16, none⟩ (.slice (some ⟨gg, 0, none⟩) (n + 1) cap) = W2 := ⟨_, rfl⟩
    have hgg : gg ≠ g := fun e => own_ne hown1 HB1.out (by decide) (by rw [← e]; rfl)
    have HB2 : Hid (Blk W2 g 124 #[.int .i64 lo, .int .i64 hi, nm, .bool week, .string s, .int .i64 k, x0, x1, x2, x3, x4, x5, x6, x7, x8, x9, .slice (some ⟨gg, 0, none⟩) (n + 1) cap, b, th]) := Lib.hid (hW2 ▸ HB1.out.set_ 16 _)
    have HO2 : Hid (W2.ownsRow Bs 120 10 (.slice (some ⟨gg, 0, none⟩) (n + 1) cap) (n + 1) (xs ++ [x0, x1, x2, x3, x4, x5, x6, x7, x8, x9])) := Lib.hid (hW2 ▸ own_kp hown1 (Kg.set_ (Kp.refl _ _) 16 _) (fun i hi => by subst hi; simp [Value.ownBlock]; exact hgg))
    have HK2 : Hid (Kp (fun i => i = g ∨ ls.ownBlock = some i) w W2) := Lib.hid (hW2 ▸ Kp.set_ ((((Kp.refl _ _).alloc _).drew).trans ((kp_grown hgrow).mono (fun _ h => .inr h))) (.inl (.inl rfl)) _)
    have hat2 : ∀ i, (Value.slice (some ⟨gg, 0, none⟩) (n + 1) cap).ownBlock = some i → ls.ownBlock = some i ∨ w.heap.size ≤ i := by
      intro i hi
      simp only [Value.ownBlock, Option.some.injEq] at hi
      subst hi
      rcases hat with h | h
      · exact .inl h
      · exact .inr (by omega)
    have Hat := Lib.hid hat2
    go_wp2
    rw [hW2]
    clear hc16 h6 h7 h8 h9 h10 h11 h12 h13 h14 h15 hf16 hne hown1 hgrow hat hlt HB1 q1 q2 hW2 hat2
    obtain ⟨hc, hf⟩ := HB2.out.facts
    have e1 : (k == s.size) = false := by rw [beq_eq_false_iff_ne]; have := Hhe.out; omega
    have e2 : ((k : Int) == (s.size : Int)) = false := by rw [beq_eq_false_iff_ne]; have := Hhe.out; omega
    go_quiet (fail)
    go_wp2_with (go_at_call 100; refine (rd_next_no g 44 _ lo hi nm week s k _ _ _ _ _ _ _ _ _ _ _ _ _ hs hk Hhq.out (HB2.out.drewN _)).mono ?_; rintro e w3 ⟨rfl, hk3, hB3⟩; have HB3 := Lib.hid hB3; clear hB3 hc hf; obtain ⟨hc, hf⟩ := HB3.out.facts)
    go_at_call 103
    refine (rd_fail g _ lo hi nm week s k _ _ _ _ _ _ _ _ _ _ _ _ _ _ HB3.out).mono ?_
    rintro e w4 ⟨rfl, hk4, hB4⟩
    go_wp2
    go_ret
    exact ⟨rfl, _, hB4, own_kp HO2.out (((((Kp.refl _ _).drewN _).trans hk3).trans hk4 : Kg g W2 w4)) (fun i hi => by subst hi; simp [Value.ownBlock]; exact hgg), (HK2.out.drewN _).trans ((hk3.trans hk4).mono (fun _ h => .inl h)), Hat.out⟩

end Go.Proofs.YtjnlgaeedcklaaaGreatDoor
