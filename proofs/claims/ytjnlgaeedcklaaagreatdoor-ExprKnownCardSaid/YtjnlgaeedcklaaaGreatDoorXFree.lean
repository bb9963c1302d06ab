/-
  The program's free: do an expression's days match always.
-/
import Derived.Test.YtjnlgaeedcklaaaGreatDoorXCheck
import Derived.Test.YtjnlgaeedcklaaaGreatDoorXPlain5
set_option linter.unusedVariables false
set_option linter.unusedSimpArgs false
namespace Go.Proofs.YtjnlgaeedcklaaaGreatDoor
open Go.RowKit

set_option maxRecDepth 100000 in
set_option maxHeartbeats 8000000 in
theorem expr_free (x : Xs.Ex) (w : World) (hT : Tabs w) :
    Calls Tryz.prog 58 #[exV x.second x.minute x.hour x.day x.month x.week x.anyDay x.anyWeek] w fun e w' => e = .returned (.bool (Xs.freeB KX x)) ∧ Below w.heap.size w w' := by
  have HF3 : Hid (∀ W, Tabs W → Calls Tryz.prog 49 #[.int .i64 3] W fun e w' => e = .returned (.int .u64 (Fs.full (KX 3))) ∧ Below W.heap.size W w') := Lib.hid fun W hT => expr_full 3 (by decide) W hT
  have HF5 : Hid (∀ W, Tabs W → Calls Tryz.prog 49 #[.int .i64 5] W fun e w' => e = .returned (.int .u64 (Fs.full (KX 5))) ∧ Below W.heap.size W w') := Lib.hid fun W hT => expr_full 5 (by decide) W hT
  obtain ⟨a, b, c, d, m, f, ad, aw⟩ := x
  have hv : Xs.freeB KX ⟨a, b, c, d, m, f, ad, aw⟩ = ((ad && aw) || (!ad && decide (d = Fs.full (KX 3))) || (!aw && decide (f = Fs.full (KX 5)))) := rfl
  rw [hv]
  clear hv
  generalize Fs.full (KX 3) = f3 at *
  generalize Fs.full (KX 5) = f5 at *
  have hmu := yielded_undef
  have TD : Hid (Tabs (w.alloc (.cells #[.int .u64 a, .int .u64 b, .int .u64 c, .int .u64 d, .int .u64 m, .int .u64 f, .bool ad, .bool aw] 25)).drew) := Lib.hid (hT.alloc _).drew
  have HB := Lib.hid ((Below.refl w.heap.size w).alloc (Nat.le_refl _) (.cells #[.int .u64 a, .int .u64 b, .int .u64 c, .int .u64 d, .int .u64 m, .int .u64 f, .bool ad, .bool aw] 25))
  have hk := (Blk.new w 25 #[.int .u64 a, .int .u64 b, .int .u64 c, .int .u64 d, .int .u64 m, .int .u64 f, .bool ad, .bool aw])
  have c3 := hk.cell 3
  have c5 := hk.cell 5
  have c6 := hk.cell 6
  have c7 := hk.cell 7
  have s2 : w.heap.size < (w.alloc (.cells #[.int .u64 a, .int .u64 b, .int .u64 c, .int .u64 d, .int .u64 m, .int .u64 f, .bool ad, .bool aw] 25)).drew.heap.size := by have := hk.lt; exact this
  clear hT hk
  cases ad with
  | true =>
    cases aw with
    | true =>
      go_enter Tryz.func58, Tryz.ntmps58
      go_wp2_with fail
      refine wp_region_held_drew (S := fun W => W.cell? ⟨w.heap.size, 3, none⟩ = some (.int .u64 d) ∧ W.cell? ⟨w.heap.size, 5, none⟩ = some (.int .u64 f) ∧ W.cell? ⟨w.heap.size, 6, none⟩ = some (.bool true) ∧ W.cell? ⟨w.heap.size, 7, none⟩ = some (.bool true)) (by kernel_rfl) ?hs1 (fun hHeld => ?rs1)
      case hs1 => exact ⟨c3, c5, c6, c7⟩
      refine wpAnyH_take (i := 0) (oi := ?oi2) (v := ?vv2) ?hi2 (by kernel_rfl) (by kernel_rfl) (by kernel_rfl) ?hq2 (Or.inl ⟨?hw2, ?hy2⟩) (by assumption) ?rs2
      case hi2 => (simp only [Hg]; rfl)
      case hq2 => exact fun _ _ _ h => h
      case hw2 => rfl
      case hy2 => (intro w hSw; (try dsimp only at hSw); go_simp <;> with_reducible rfl)
      simp only [Hp]
      refine wpAnyH_take (i := 1) (oi := ?oi3) (v := ?vv3) ?hi3 (by kernel_rfl) (by kernel_rfl) (by kernel_rfl) ?hq3 (Or.inl ⟨?hw3, ?hy3⟩) (by assumption) ?rs3
      case hi3 => (simp only [Hg]; rfl)
      case hq3 => exact fun _ _ _ h => h
      case hw3 => rfl
      case hy3 => (intro w hSw; (try dsimp only at hSw); go_simp <;> with_reducible rfl)
      simp only [Hp]
      refine wpAnyH_take (i := 2) (oi := ?oi4) (v := ?vv4) ?hi4 (by kernel_rfl) (by kernel_rfl) (by kernel_rfl) ?hq4 (Or.inl ⟨?hw4, ?hy4⟩) (by assumption) ?rs4
      case hi4 => (simp only [Hg]; rfl)
      case hq4 => exact fun _ _ _ h => h
      case hw4 => rfl
      case hy4 => (intro w hSw; (try dsimp only at hSw); go_simp <;> with_reducible rfl)
      simp only [Hp]
      refine wpAnyH_take (i := 3) (oi := ?oi5) (v := ?vv5) ?hi5 (by kernel_rfl) (by kernel_rfl) (by kernel_rfl) ?hq5 (Or.inl ⟨?hw5, ?hy5⟩) (by assumption) ?rs5
      case hi5 => (simp only [Hg]; rfl)
      case hq5 => exact fun _ _ _ h => h
      case hw5 => rfl
      case hy5 => (intro w hSw; (try dsimp only at hSw); go_simp <;> with_reducible rfl)
      simp only [Hp]
      refine wpAnyH_take (i := 4) (oi := ?oi6) (v := ?vv6) ?hi6 (by kernel_rfl) (by kernel_rfl) (by kernel_rfl) ?hq6 (Or.inl ⟨?hw6, ?hy6⟩) (by assumption) ?rs6
      case hi6 => (simp only [Hg]; rfl)
      case hq6 => exact fun _ _ _ h => h
      case hw6 => rfl
      case hy6 => (intro w hSw; (try dsimp only at hSw); go_simp <;> with_reducible rfl)
      simp only [Hp]
      refine wpAnyH_take (i := 5) (oi := ?oi7) (v := ?vv7) ?hi7 (by kernel_rfl) (by kernel_rfl) (by kernel_rfl) ?hq7 (Or.inl ⟨?hw7, ?hy7⟩) (by assumption) ?rs7
      case hi7 => (simp only [Hg]; rfl)
      case hq7 => exact fun _ _ _ h => h
      case hw7 => rfl
      case hy7 => (intro w hSw; (try dsimp only at hSw); go_simp <;> with_reducible rfl)
      simp only [Hp]
      refine wpAnyH_take (i := 6) (oi := ?oi8) (v := ?vv8) ?hi8 (by kernel_rfl) (by kernel_rfl) (by kernel_rfl) ?hq8 (Or.inl ⟨?hw8, ?hy8⟩) (by assumption) ?rs8
      case hi8 => (simp only [Hg]; rfl)
      case hq8 => exact fun _ _ _ h => h
      case hw8 => rfl
      case hy8 => (intro w hSw; (try dsimp only at hSw); go_simp <;> with_reducible rfl)
      simp only [Hp]
      refine wpAnyH_take (i := 7) (oi := ?oi9) (v := undef) ?hi9 (by kernel_rfl) (by kernel_rfl) (by kernel_rfl) ?hq9 (Or.inr ⟨?hw9, rfl⟩) (by assumption) ?rs9
      case hi9 => (simp only [Hg]; rfl)
      case hq9 => exact fun _ _ _ h => h
      case hw9 => rfl
      simp only [Hp]
      refine wpAnyH_take (i := 8) (oi := ?oi10) (v := undef) ?hi10 (by kernel_rfl) (by kernel_rfl) (by kernel_rfl) ?hq10 (Or.inr ⟨?hw10, rfl⟩) (by assumption) ?rs10
      case hi10 => (simp only [Hg]; rfl)
      case hq10 => exact fun _ _ _ h => h
      case hw10 => rfl
      simp only [Hp]
      refine wpAnyH_take (i := 9) (oi := ?oi11) (v := undef) ?hi11 (by kernel_rfl) (by kernel_rfl) (by kernel_rfl) ?hq11 (Or.inr ⟨?hw11, rfl⟩) (by assumption) ?rs11
      case hi11 => (simp only [Hg]; rfl)
      case hq11 => exact fun _ _ _ h => h
      case hw11 => rfl
      simp only [Hp]
      refine wpAnyH_take (i := 10) (oi := ?oi12) (v := undef) ?hi12 (by kernel_rfl) (by kernel_rfl) (by kernel_rfl) ?hq12 (Or.inr ⟨?hw12, rfl⟩) (by assumption) ?rs12
      case hi12 => (simp only [Hg]; rfl)
      case hq12 => exact fun _ _ _ h => h
      case hw12 => rfl
      simp only [Hp]
      refine wpAnyH_take (i := 11) (oi := ?oi13) (v := undef) ?hi13 (by kernel_rfl) (by kernel_rfl) (by kernel_rfl) ?hq13 (Or.inr ⟨?hw13, rfl⟩) (by assumption) ?rs13
      case hi13 => (simp only [Hg]; rfl)
      case hq13 => exact fun _ _ _ h => h
      case hw13 => rfl
      simp only [Hp]
      refine wpAnyH_take (i := 12) (oi := ?oi14) (v := undef) ?hi14 (by kernel_rfl) (by kernel_rfl) (by kernel_rfl) ?hq14 (Or.inr ⟨?hw14, rfl⟩) (by assumption) ?rs14
      case hi14 => (simp only [Hg]; rfl)
      case hq14 => exact fun _ _ _ h => h
      case hw14 => rfl
      simp only [Hp]
      refine wpAnyH_ready (rs := [13]) (by kernel_rfl) (by simp) (AllReadyH.cons (o := ?oi15) ?hi15 (fun K hK => ?rs15) AllReadyH.nil)
      case hi15 => (simp only [Hg]; rfl)
      go_simp
      refine hK.out _ _ ?hs15 (fun hHeld => ?rt15)
      case hs15 => assumption
      clear hK K
      try simp only [Hp]
      refine wpAnyH_take (i := 14) (oi := ?oi16) (v := undef) ?hi16 (by kernel_rfl) (by kernel_rfl) (by kernel_rfl) ?hq16 (Or.inr ⟨?hw16, rfl⟩) (by assumption) ?rs16
      case hi16 => (simp only [Hg]; rfl)
      case hq16 => exact fun _ _ _ h => h
      case hw16 => rfl
      simp only [Hp]
      refine wpAnyH_take (i := 15) (oi := ?oi17) (v := undef) ?hi17 (by kernel_rfl) (by kernel_rfl) (by kernel_rfl) ?hq17 (Or.inr ⟨?hw17, rfl⟩) (by assumption) ?rs17
      case hi17 => (simp only [Hg]; rfl)
      case hq17 => exact fun _ _ _ h => h
      case hw17 => rfl
      simp only [Hp]
      refine wpAnyH_take (i := 16) (oi := ?oi18) (v := ?vv18) ?hi18 (by kernel_rfl) (by kernel_rfl) (by kernel_rfl) ?hq18 (Or.inl ⟨?hw18, ?hy18⟩) (by assumption) ?rs18
      case hi18 => (simp only [Hg]; rfl)
      case hq18 => exact fun _ _ _ h => h
      case hw18 => rfl
      case hy18 => (intro w hSw; (try dsimp only at hSw); go_simp <;> with_reducible rfl)
      simp only [Hp]
      refine wpAnyH_take (i := 17) (oi := ?oi19) (v := ?vv19) ?hi19 (by kernel_rfl) (by kernel_rfl) (by kernel_rfl) ?hq19 (Or.inl ⟨?hw19, ?hy19⟩) (by assumption) ?rs19
      case hi19 => (simp only [Hg]; rfl)
      case hq19 => exact fun _ _ _ h => h
      case hw19 => rfl
      case hy19 => (intro w hSw; (try dsimp only at hSw); go_simp <;> with_reducible rfl)
      simp only [Hp]
      refine wpAnyH_take (i := 18) (oi := ?oi20) (v := undef) ?hi20 (by kernel_rfl) (by kernel_rfl) (by kernel_rfl) ?hq20 (Or.inr ⟨?hw20, rfl⟩) (by assumption) ?rs20
      case hi20 => (simp only [Hg]; rfl)
      case hq20 => exact fun _ _ _ h => h
      case hw20 => rfl
      simp only [Hp]
      refine wpAnyH_take (i := 19) (oi := ?oi21) (v := undef) ?hi21 (by kernel_rfl) (by kernel_rfl) (by kernel_rfl) ?hq21 (Or.inr ⟨?hw21, rfl⟩) (by assumption) ?rs21
      case hi21 => (simp only [Hg]; rfl)
      case hq21 => exact fun _ _ _ h => h
      case hw21 => rfl
      simp only [Hp]
      refine wpAnyH_take (i := 20) (oi := ?oi22) (v := undef) ?hi22 (by kernel_rfl) (by kernel_rfl) (by kernel_rfl) ?hq22 (Or.inr ⟨?hw22, rfl⟩) (by assumption) ?rs22
      case hi22 => (simp only [Hg]; rfl)
      case hq22 => exact fun _ _ _ h => h
      case hw22 => rfl
      simp only [Hp]
      refine wpAnyH_take (i := 21) (oi := ?oi23) (v := undef) ?hi23 (by kernel_rfl) (by kernel_rfl) (by kernel_rfl) ?hq23 (Or.inr ⟨?hw23, rfl⟩) (by assumption) ?rs23
      case hi23 => (simp only [Hg]; rfl)
      case hq23 => exact fun _ _ _ h => h
      case hw23 => rfl
      simp only [Hp]
      refine wpAnyH_take (i := 22) (oi := ?oi24) (v := undef) ?hi24 (by kernel_rfl) (by kernel_rfl) (by kernel_rfl) ?hq24 (Or.inr ⟨?hw24, rfl⟩) (by assumption) ?rs24
      case hi24 => (simp only [Hg]; rfl)
      case hq24 => exact fun _ _ _ h => h
      case hw24 => rfl
      simp only [Hp]
      refine wpAnyH_take (i := 23) (oi := ?oi25) (v := undef) ?hi25 (by kernel_rfl) (by kernel_rfl) (by kernel_rfl) ?hq25 (Or.inr ⟨?hw25, rfl⟩) (by assumption) ?rs25
      case hi25 => (simp only [Hg]; rfl)
      case hq25 => exact fun _ _ _ h => h
      case hw25 => rfl
      simp only [Hp]
      refine wpAnyH_ready (rs := [24]) (by kernel_rfl) (by simp) (AllReadyH.cons (o := ?oi26) ?hi26 (fun K hK => ?rs26) AllReadyH.nil)
      case hi26 => (simp only [Hg]; rfl)
      go_simp
      refine hK.out _ _ ?hs26 (fun hHeld => ?rt26)
      case hs26 => assumption
      clear hK K
      try simp only [Hp]
      refine wpAnyH_take (i := 25) (oi := ?oi27) (v := undef) ?hi27 (by kernel_rfl) (by kernel_rfl) (by kernel_rfl) ?hq27 (Or.inr ⟨?hw27, rfl⟩) (by assumption) ?rs27
      case hi27 => (simp only [Hg]; rfl)
      case hq27 => exact fun _ _ _ h => h
      case hw27 => rfl
      simp only [Hp]
      refine wpAnyH_take (i := 26) (oi := ?oi28) (v := undef) ?hi28 (by kernel_rfl) (by kernel_rfl) (by kernel_rfl) ?hq28 (Or.inr ⟨?hw28, rfl⟩) (by assumption) ?rs28
      case hi28 => (simp only [Hg]; rfl)
      case hq28 => exact fun _ _ _ h => h
      case hw28 => rfl
      simp only [Hp]
      refine wpAnyH_take (i := 27) (oi := ?oi29) (v := ?vv29) ?hi29 (by kernel_rfl) (by kernel_rfl) (by kernel_rfl) ?hq29 (Or.inl ⟨?hw29, ?hy29⟩) (by assumption) ?rs29
      case hi29 => (simp only [Hg]; rfl)
      case hq29 => exact fun _ _ _ h => h
      case hw29 => rfl
      case hy29 => (intro w hSw; (try dsimp only at hSw); go_simp <;> with_reducible rfl)
      simp only [Hp]
      refine wpAnyH_take (i := 28) (oi := ?oi30) (v := ?vv30) ?hi30 (by kernel_rfl) (by kernel_rfl) (by kernel_rfl) ?hq30 (Or.inl ⟨?hw30, ?hy30⟩) (by assumption) ?rs30
      case hi30 => (simp only [Hg]; rfl)
      case hq30 => exact fun _ _ _ h => h
      case hw30 => rfl
      case hy30 => (intro w hSw; (try dsimp only at hSw); go_simp <;> with_reducible rfl)
      simp only [Hp]
      refine wpAnyH_done (by kernel_rfl) ?_ _
      go_wp2_with fail
      go_ret
      exact ⟨rfl, HB.out.drew⟩
    | false =>
      by_cases hf5 : f = f5
      · have ef5 : ((f : Int) == (f5 : Int)) = true := by rw [beq_iff_eq]; omega
        rw [show decide (f = f5) = true from decide_eq_true hf5]
        clear hf5
        go_enter Tryz.func58, Tryz.ntmps58
        go_wp2_with fail
        refine wp_region_held_drew (S := fun W => W.cell? ⟨w.heap.size, 3, none⟩ = some (.int .u64 d) ∧ W.cell? ⟨w.heap.size, 5, none⟩ = some (.int .u64 f) ∧ W.cell? ⟨w.heap.size, 6, none⟩ = some (.bool true) ∧ W.cell? ⟨w.heap.size, 7, none⟩ = some (.bool false)) (by kernel_rfl) ?hs31 (fun hHeld => ?rs31)
        case hs31 => exact ⟨c3, c5, c6, c7⟩
        refine wpAnyH_take (i := 0) (oi := ?oi32) (v := ?vv32) ?hi32 (by kernel_rfl) (by kernel_rfl) (by kernel_rfl) ?hq32 (Or.inl ⟨?hw32, ?hy32⟩) (by assumption) ?rs32
        case hi32 => (simp only [Hg]; rfl)
        case hq32 => exact fun _ _ _ h => h
        case hw32 => rfl
        case hy32 => (intro w hSw; (try dsimp only at hSw); go_simp <;> with_reducible rfl)
        simp only [Hp]
        refine wpAnyH_take (i := 1) (oi := ?oi33) (v := ?vv33) ?hi33 (by kernel_rfl) (by kernel_rfl) (by kernel_rfl) ?hq33 (Or.inl ⟨?hw33, ?hy33⟩) (by assumption) ?rs33
        case hi33 => (simp only [Hg]; rfl)
        case hq33 => exact fun _ _ _ h => h
        case hw33 => rfl
        case hy33 => (intro w hSw; (try dsimp only at hSw); go_simp <;> with_reducible rfl)
        simp only [Hp]
        refine wpAnyH_take (i := 2) (oi := ?oi34) (v := ?vv34) ?hi34 (by kernel_rfl) (by kernel_rfl) (by kernel_rfl) ?hq34 (Or.inl ⟨?hw34, ?hy34⟩) (by assumption) ?rs34
        case hi34 => (simp only [Hg]; rfl)
        case hq34 => exact fun _ _ _ h => h
        case hw34 => rfl
        case hy34 => (intro w hSw; (try dsimp only at hSw); go_simp <;> with_reducible rfl)
        simp only [Hp]
        refine wpAnyH_take (i := 3) (oi := ?oi35) (v := ?vv35) ?hi35 (by kernel_rfl) (by kernel_rfl) (by kernel_rfl) ?hq35 (Or.inl ⟨?hw35, ?hy35⟩) (by assumption) ?rs35
        case hi35 => (simp only [Hg]; rfl)
        case hq35 => exact fun _ _ _ h => h
        case hw35 => rfl
        case hy35 => (intro w hSw; (try dsimp only at hSw); go_simp <;> with_reducible rfl)
        simp only [Hp]
        refine wpAnyH_take (i := 4) (oi := ?oi36) (v := ?vv36) ?hi36 (by kernel_rfl) (by kernel_rfl) (by kernel_rfl) ?hq36 (Or.inl ⟨?hw36, ?hy36⟩) (by assumption) ?rs36
        case hi36 => (simp only [Hg]; rfl)
        case hq36 => exact fun _ _ _ h => h
        case hw36 => rfl
        case hy36 => (intro w hSw; (try dsimp only at hSw); go_simp <;> with_reducible rfl)
        simp only [Hp]
        refine wpAnyH_take (i := 5) (oi := ?oi37) (v := ?vv37) ?hi37 (by kernel_rfl) (by kernel_rfl) (by kernel_rfl) ?hq37 (Or.inl ⟨?hw37, ?hy37⟩) (by assumption) ?rs37
        case hi37 => (simp only [Hg]; rfl)
        case hq37 => exact fun _ _ _ h => h
        case hw37 => rfl
        case hy37 => (intro w hSw; (try dsimp only at hSw); go_simp <;> with_reducible rfl)
        simp only [Hp]
        refine wpAnyH_take (i := 6) (oi := ?oi38) (v := ?vv38) ?hi38 (by kernel_rfl) (by kernel_rfl) (by kernel_rfl) ?hq38 (Or.inl ⟨?hw38, ?hy38⟩) (by assumption) ?rs38
        case hi38 => (simp only [Hg]; rfl)
        case hq38 => exact fun _ _ _ h => h
        case hw38 => rfl
        case hy38 => (intro w hSw; (try dsimp only at hSw); go_simp <;> with_reducible rfl)
        simp only [Hp]
        refine wpAnyH_take (i := 7) (oi := ?oi39) (v := ?vv39) ?hi39 (by kernel_rfl) (by kernel_rfl) (by kernel_rfl) ?hq39 (Or.inl ⟨?hw39, ?hy39⟩) (by assumption) ?rs39
        case hi39 => (simp only [Hg]; rfl)
        case hq39 => exact fun _ _ _ h => h
        case hw39 => rfl
        case hy39 => (intro w hSw; (try dsimp only at hSw); go_simp <;> with_reducible rfl)
        simp only [Hp]
        refine wpAnyH_take (i := 8) (oi := ?oi40) (v := ?vv40) ?hi40 (by kernel_rfl) (by kernel_rfl) (by kernel_rfl) ?hq40 (Or.inl ⟨?hw40, ?hy40⟩) (by assumption) ?rs40
        case hi40 => (simp only [Hg]; rfl)
        case hq40 => exact fun _ _ _ h => h
        case hw40 => rfl
        case hy40 => (intro w hSw; (try dsimp only at hSw); go_simp <;> with_reducible rfl)
        simp only [Hp]
        refine wpAnyH_take (i := 9) (oi := ?oi41) (v := ?vv41) ?hi41 (by kernel_rfl) (by kernel_rfl) (by kernel_rfl) ?hq41 (Or.inl ⟨?hw41, ?hy41⟩) (by assumption) ?rs41
        case hi41 => (simp only [Hg]; rfl)
        case hq41 => exact fun _ _ _ h => h
        case hw41 => rfl
        case hy41 => (intro w hSw; (try dsimp only at hSw); go_simp <;> with_reducible rfl)
        simp only [Hp]
        refine wpAnyH_take (i := 10) (oi := ?oi42) (v := ?vv42) ?hi42 (by kernel_rfl) (by kernel_rfl) (by kernel_rfl) ?hq42 (Or.inl ⟨?hw42, ?hy42⟩) (by assumption) ?rs42
        case hi42 => (simp only [Hg]; rfl)
        case hq42 => exact fun _ _ _ h => h
        case hw42 => rfl
        case hy42 => (intro w hSw; (try dsimp only at hSw); go_simp <;> with_reducible rfl)
        simp only [Hp]
        refine wpAnyH_take (i := 11) (oi := ?oi43) (v := undef) ?hi43 (by kernel_rfl) (by kernel_rfl) (by kernel_rfl) ?hq43 (Or.inr ⟨?hw43, rfl⟩) (by assumption) ?rs43
        case hi43 => (simp only [Hg]; rfl)
        case hq43 => exact fun _ _ _ h => h
        case hw43 => rfl
        simp only [Hp]
        refine wpAnyH_take (i := 12) (oi := ?oi44) (v := undef) ?hi44 (by kernel_rfl) (by kernel_rfl) (by kernel_rfl) ?hq44 (Or.inr ⟨?hw44, rfl⟩) (by assumption) ?rs44
        case hi44 => (simp only [Hg]; rfl)
        case hq44 => exact fun _ _ _ h => h
        case hw44 => rfl
        simp only [Hp]
        refine wpAnyH_ready (rs := [13]) (by kernel_rfl) (by simp) (AllReadyH.cons (o := ?oi45) ?hi45 (fun K hK => ?rs45) AllReadyH.nil)
        case hi45 => (simp only [Hg]; rfl)
        go_simp
        refine hK.out _ _ ?hs45 (fun hHeld => ?rt45)
        case hs45 => assumption
        clear hK K
        try simp only [Hp]
        refine wpAnyH_take (i := 14) (oi := ?oi46) (v := undef) ?hi46 (by kernel_rfl) (by kernel_rfl) (by kernel_rfl) ?hq46 (Or.inr ⟨?hw46, rfl⟩) (by assumption) ?rs46
        case hi46 => (simp only [Hg]; rfl)
        case hq46 => exact fun _ _ _ h => h
        case hw46 => rfl
        simp only [Hp]
        refine wpAnyH_take (i := 15) (oi := ?oi47) (v := ?vv47) ?hi47 (by kernel_rfl) (by kernel_rfl) (by kernel_rfl) ?hq47 (Or.inl ⟨?hw47, ?hy47⟩) (by assumption) ?rs47
        case hi47 => (simp only [Hg]; rfl)
        case hq47 => exact fun _ _ _ h => h
        case hw47 => rfl
        case hy47 => (intro w hSw; (try dsimp only at hSw); go_simp <;> with_reducible rfl)
        simp only [Hp]
        refine wpAnyH_take (i := 16) (oi := ?oi48) (v := ?vv48) ?hi48 (by kernel_rfl) (by kernel_rfl) (by kernel_rfl) ?hq48 (Or.inl ⟨?hw48, ?hy48⟩) (by assumption) ?rs48
        case hi48 => (simp only [Hg]; rfl)
        case hq48 => exact fun _ _ _ h => h
        case hw48 => rfl
        case hy48 => (intro w hSw; (try dsimp only at hSw); go_simp <;> with_reducible rfl)
        simp only [Hp]
        refine wpAnyH_take (i := 17) (oi := ?oi49) (v := ?vv49) ?hi49 (by kernel_rfl) (by kernel_rfl) (by kernel_rfl) ?hq49 (Or.inl ⟨?hw49, ?hy49⟩) (by assumption) ?rs49
        case hi49 => (simp only [Hg]; rfl)
        case hq49 => exact fun _ _ _ h => h
        case hw49 => rfl
        case hy49 => (intro w hSw; (try dsimp only at hSw); go_simp <;> with_reducible rfl)
        simp only [Hp]
        refine wpAnyH_take (i := 18) (oi := ?oi50) (v := ?vv50) ?hi50 (by kernel_rfl) (by kernel_rfl) (by kernel_rfl) ?hq50 (Or.inl ⟨?hw50, ?hy50⟩) (by assumption) ?rs50
        case hi50 => (simp only [Hg]; rfl)
        case hq50 => exact fun _ _ _ h => h
        case hw50 => rfl
        case hy50 => (intro w hSw; (try dsimp only at hSw); go_simp <;> with_reducible rfl)
        simp only [Hp]
        refine wpAnyH_take (i := 19) (oi := ?oi51) (v := ?vv51) ?hi51 (by kernel_rfl) (by kernel_rfl) (by kernel_rfl) ?hq51 (Or.inl ⟨?hw51, ?hy51⟩) (by assumption) ?rs51
        case hi51 => (simp only [Hg]; rfl)
        case hq51 => exact fun _ _ _ h => h
        case hw51 => rfl
        case hy51 => (intro w hSw; (try dsimp only at hSw); go_simp <;> with_reducible rfl)
        simp only [Hp]
        refine wpAnyH_take (i := 20) (oi := ?oi52) (v := ?vv52) ?hi52 (by kernel_rfl) (by kernel_rfl) (by kernel_rfl) ?hq52 (Or.inl ⟨?hw52, ?hy52⟩) (by assumption) ?rs52
        case hi52 => (simp only [Hg]; rfl)
        case hq52 => exact fun _ _ _ h => h
        case hw52 => rfl
        case hy52 => (intro w hSw; (try dsimp only at hSw); go_simp <;> with_reducible rfl)
        simp only [Hp]
        refine wpAnyH_take (i := 21) (oi := ?oi53) (v := ?vv53) ?hi53 (by kernel_rfl) (by kernel_rfl) (by kernel_rfl) ?hq53 (Or.inl ⟨?hw53, ?hy53⟩) (by assumption) ?rs53
        case hi53 => (simp only [Hg]; rfl)
        case hq53 => exact fun _ _ _ h => h
        case hw53 => rfl
        case hy53 => (intro w hSw; (try dsimp only at hSw); go_simp <;> with_reducible rfl)
        simp only [Hp]
        refine wpAnyH_take (i := 22) (oi := ?oi54) (v := ?vv54) ?hi54 (by kernel_rfl) (by kernel_rfl) (by kernel_rfl) ?hq54 (Or.inl ⟨?hw54, ?hy54⟩) (by assumption) ?rs54
        case hi54 => (simp only [Hg]; rfl)
        case hq54 => exact fun _ _ _ h => h
        case hw54 => rfl
        case hy54 => (intro w hSw; (try dsimp only at hSw); go_simp <;> with_reducible rfl)
        simp only [Hp]
        refine wpAnyH_take (i := 23) (oi := ?oi55) (v := ?vv55) ?hi55 (by kernel_rfl) (by kernel_rfl) (by kernel_rfl) ?hq55 (Or.inl ⟨?hw55, ?hy55⟩) (by assumption) ?rs55
        case hi55 => (simp only [Hg]; rfl)
        case hq55 => exact fun _ _ _ h => h
        case hw55 => rfl
        case hy55 => (intro w hSw; (try dsimp only at hSw); go_simp <;> with_reducible rfl)
        simp only [Hp]
        refine wpAnyH_ready (rs := [24]) (by kernel_rfl) (by simp) (AllReadyH.cons (o := ?oi56) ?hi56 (fun K hK => ?rs56) AllReadyH.nil)
        case hi56 => (simp only [Hg]; rfl)
        go_simp
        (go_at_call 49; (with_reducible refine (HF5.out _ TD.out).mono ?_); rintro e w2 ⟨rfl, hb2⟩; have HB2 := Lib.hid hb2; have s3 : w.heap.size < w2.heap.size := Nat.lt_of_lt_of_le s2 hb2.size; have T2 := Lib.hid (TD.out.grow hb2))
        refine hK.out _ _ ?hs56 (fun hHeld => ?rt56)
        case hs56 => exact ⟨(hb2.cell (p := ⟨w.heap.size, 3, none⟩) s2).trans c3, (hb2.cell (p := ⟨w.heap.size, 5, none⟩) s2).trans c5, (hb2.cell (p := ⟨w.heap.size, 6, none⟩) s2).trans c6, (hb2.cell (p := ⟨w.heap.size, 7, none⟩) s2).trans c7⟩
        clear hK K
        try simp only [Hp]
        refine wpAnyH_take (i := 25) (oi := ?oi57) (v := ?vv57) ?hi57 (by kernel_rfl) (by kernel_rfl) (by kernel_rfl) ?hq57 (Or.inl ⟨?hw57, ?hy57⟩) (by assumption) ?rs57
        case hi57 => (simp only [Hg]; rfl)
        case hq57 => exact fun _ _ _ h => h
        case hw57 => rfl
        case hy57 => (intro w hSw; (try dsimp only at hSw); go_simp <;> with_reducible rfl)
        simp only [Hp]
        refine wpAnyH_take (i := 26) (oi := ?oi58) (v := ?vv58) ?hi58 (by kernel_rfl) (by kernel_rfl) (by kernel_rfl) ?hq58 (Or.inl ⟨?hw58, ?hy58⟩) (by assumption) ?rs58
        case hi58 => (simp only [Hg]; rfl)
        case hq58 => exact fun _ _ _ h => h
        case hw58 => rfl
        case hy58 => (intro w hSw; (try dsimp only at hSw); go_simp <;> with_reducible rfl)
        simp only [Hp]
        refine wpAnyH_take (i := 27) (oi := ?oi59) (v := ?vv59) ?hi59 (by kernel_rfl) (by kernel_rfl) (by kernel_rfl) ?hq59 (Or.inl ⟨?hw59, ?hy59⟩) (by assumption) ?rs59
        case hi59 => (simp only [Hg]; rfl)
        case hq59 => exact fun _ _ _ h => h
        case hw59 => rfl
        case hy59 => (intro w hSw; (try dsimp only at hSw); go_simp <;> with_reducible rfl)
        simp only [Hp]
        refine wpAnyH_take (i := 28) (oi := ?oi60) (v := ?vv60) ?hi60 (by kernel_rfl) (by kernel_rfl) (by kernel_rfl) ?hq60 (Or.inl ⟨?hw60, ?hy60⟩) (by assumption) ?rs60
        case hi60 => (simp only [Hg]; rfl)
        case hq60 => exact fun _ _ _ h => h
        case hw60 => rfl
        case hy60 => (intro w hSw; (try dsimp only at hSw); go_simp <;> with_reducible rfl)
        simp only [Hp]
        refine wpAnyH_done (by kernel_rfl) ?_ _
        go_wp2_with fail
        go_ret
        exact ⟨rfl, HB.out.drew.trans (HB2.out.mono (Nat.le_of_lt s2))⟩
      · have ef5 : ((f : Int) == (f5 : Int)) = false := by rw [beq_eq_false_iff_ne]; omega
        rw [show decide (f = f5) = false from decide_eq_false hf5]
        clear hf5
        go_enter Tryz.func58, Tryz.ntmps58
        go_wp2_with fail
        refine wp_region_held_drew (S := fun W => W.cell? ⟨w.heap.size, 3, none⟩ = some (.int .u64 d) ∧ W.cell? ⟨w.heap.size, 5, none⟩ = some (.int .u64 f) ∧ W.cell? ⟨w.heap.size, 6, none⟩ = some (.bool true) ∧ W.cell? ⟨w.heap.size, 7, none⟩ = some (.bool false)) (by kernel_rfl) ?hs61 (fun hHeld => ?rs61)
        case hs61 => exact ⟨c3, c5, c6, c7⟩
        refine wpAnyH_take (i := 0) (oi := ?oi62) (v := ?vv62) ?hi62 (by kernel_rfl) (by kernel_rfl) (by kernel_rfl) ?hq62 (Or.inl ⟨?hw62, ?hy62⟩) (by assumption) ?rs62
        case hi62 => (simp only [Hg]; rfl)
        case hq62 => exact fun _ _ _ h => h
        case hw62 => rfl
        case hy62 => (intro w hSw; (try dsimp only at hSw); go_simp <;> with_reducible rfl)
        simp only [Hp]
        refine wpAnyH_take (i := 1) (oi := ?oi63) (v := ?vv63) ?hi63 (by kernel_rfl) (by kernel_rfl) (by kernel_rfl) ?hq63 (Or.inl ⟨?hw63, ?hy63⟩) (by assumption) ?rs63
        case hi63 => (simp only [Hg]; rfl)
        case hq63 => exact fun _ _ _ h => h
        case hw63 => rfl
        case hy63 => (intro w hSw; (try dsimp only at hSw); go_simp <;> with_reducible rfl)
        simp only [Hp]
        refine wpAnyH_take (i := 2) (oi := ?oi64) (v := ?vv64) ?hi64 (by kernel_rfl) (by kernel_rfl) (by kernel_rfl) ?hq64 (Or.inl ⟨?hw64, ?hy64⟩) (by assumption) ?rs64
        case hi64 => (simp only [Hg]; rfl)
        case hq64 => exact fun _ _ _ h => h
        case hw64 => rfl
        case hy64 => (intro w hSw; (try dsimp only at hSw); go_simp <;> with_reducible rfl)
        simp only [Hp]
        refine wpAnyH_take (i := 3) (oi := ?oi65) (v := ?vv65) ?hi65 (by kernel_rfl) (by kernel_rfl) (by kernel_rfl) ?hq65 (Or.inl ⟨?hw65, ?hy65⟩) (by assumption) ?rs65
        case hi65 => (simp only [Hg]; rfl)
        case hq65 => exact fun _ _ _ h => h
        case hw65 => rfl
        case hy65 => (intro w hSw; (try dsimp only at hSw); go_simp <;> with_reducible rfl)
        simp only [Hp]
        refine wpAnyH_take (i := 4) (oi := ?oi66) (v := ?vv66) ?hi66 (by kernel_rfl) (by kernel_rfl) (by kernel_rfl) ?hq66 (Or.inl ⟨?hw66, ?hy66⟩) (by assumption) ?rs66
        case hi66 => (simp only [Hg]; rfl)
        case hq66 => exact fun _ _ _ h => h
        case hw66 => rfl
        case hy66 => (intro w hSw; (try dsimp only at hSw); go_simp <;> with_reducible rfl)
        simp only [Hp]
        refine wpAnyH_take (i := 5) (oi := ?oi67) (v := ?vv67) ?hi67 (by kernel_rfl) (by kernel_rfl) (by kernel_rfl) ?hq67 (Or.inl ⟨?hw67, ?hy67⟩) (by assumption) ?rs67
        case hi67 => (simp only [Hg]; rfl)
        case hq67 => exact fun _ _ _ h => h
        case hw67 => rfl
        case hy67 => (intro w hSw; (try dsimp only at hSw); go_simp <;> with_reducible rfl)
        simp only [Hp]
        refine wpAnyH_take (i := 6) (oi := ?oi68) (v := ?vv68) ?hi68 (by kernel_rfl) (by kernel_rfl) (by kernel_rfl) ?hq68 (Or.inl ⟨?hw68, ?hy68⟩) (by assumption) ?rs68
        case hi68 => (simp only [Hg]; rfl)
        case hq68 => exact fun _ _ _ h => h
        case hw68 => rfl
        case hy68 => (intro w hSw; (try dsimp only at hSw); go_simp <;> with_reducible rfl)
        simp only [Hp]
        refine wpAnyH_take (i := 7) (oi := ?oi69) (v := ?vv69) ?hi69 (by kernel_rfl) (by kernel_rfl) (by kernel_rfl) ?hq69 (Or.inl ⟨?hw69, ?hy69⟩) (by assumption) ?rs69
        case hi69 => (simp only [Hg]; rfl)
        case hq69 => exact fun _ _ _ h => h
        case hw69 => rfl
        case hy69 => (intro w hSw; (try dsimp only at hSw); go_simp <;> with_reducible rfl)
        simp only [Hp]
        refine wpAnyH_take (i := 8) (oi := ?oi70) (v := ?vv70) ?hi70 (by kernel_rfl) (by kernel_rfl) (by kernel_rfl) ?hq70 (Or.inl ⟨?hw70, ?hy70⟩) (by assumption) ?rs70
        case hi70 => (simp only [Hg]; rfl)
        case hq70 => exact fun _ _ _ h => h
        case hw70 => rfl
        case hy70 => (intro w hSw; (try dsimp only at hSw); go_simp <;> with_reducible rfl)
        simp only [Hp]
        refine wpAnyH_take (i := 9) (oi := ?oi71) (v := ?vv71) ?hi71 (by kernel_rfl) (by kernel_rfl) (by kernel_rfl) ?hq71 (Or.inl ⟨?hw71, ?hy71⟩) (by assumption) ?rs71
        case hi71 => (simp only [Hg]; rfl)
        case hq71 => exact fun _ _ _ h => h
        case hw71 => rfl
        case hy71 => (intro w hSw; (try dsimp only at hSw); go_simp <;> with_reducible rfl)
        simp only [Hp]
        refine wpAnyH_take (i := 10) (oi := ?oi72) (v := ?vv72) ?hi72 (by kernel_rfl) (by kernel_rfl) (by kernel_rfl) ?hq72 (Or.inl ⟨?hw72, ?hy72⟩) (by assumption) ?rs72
        case hi72 => (simp only [Hg]; rfl)
        case hq72 => exact fun _ _ _ h => h
        case hw72 => rfl
        case hy72 => (intro w hSw; (try dsimp only at hSw); go_simp <;> with_reducible rfl)
        simp only [Hp]
        refine wpAnyH_take (i := 11) (oi := ?oi73) (v := undef) ?hi73 (by kernel_rfl) (by kernel_rfl) (by kernel_rfl) ?hq73 (Or.inr ⟨?hw73, rfl⟩) (by assumption) ?rs73
        case hi73 => (simp only [Hg]; rfl)
        case hq73 => exact fun _ _ _ h => h
        case hw73 => rfl
        simp only [Hp]
        refine wpAnyH_take (i := 12) (oi := ?oi74) (v := undef) ?hi74 (by kernel_rfl) (by kernel_rfl) (by kernel_rfl) ?hq74 (Or.inr ⟨?hw74, rfl⟩) (by assumption) ?rs74
        case hi74 => (simp only [Hg]; rfl)
        case hq74 => exact fun _ _ _ h => h
        case hw74 => rfl
        simp only [Hp]
        refine wpAnyH_ready (rs := [13]) (by kernel_rfl) (by simp) (AllReadyH.cons (o := ?oi75) ?hi75 (fun K hK => ?rs75) AllReadyH.nil)
        case hi75 => (simp only [Hg]; rfl)
        go_simp
        refine hK.out _ _ ?hs75 (fun hHeld => ?rt75)
        case hs75 => assumption
        clear hK K
        try simp only [Hp]
        refine wpAnyH_take (i := 14) (oi := ?oi76) (v := undef) ?hi76 (by kernel_rfl) (by kernel_rfl) (by kernel_rfl) ?hq76 (Or.inr ⟨?hw76, rfl⟩) (by assumption) ?rs76
        case hi76 => (simp only [Hg]; rfl)
        case hq76 => exact fun _ _ _ h => h
        case hw76 => rfl
        simp only [Hp]
        refine wpAnyH_take (i := 15) (oi := ?oi77) (v := ?vv77) ?hi77 (by kernel_rfl) (by kernel_rfl) (by kernel_rfl) ?hq77 (Or.inl ⟨?hw77, ?hy77⟩) (by assumption) ?rs77
        case hi77 => (simp only [Hg]; rfl)
        case hq77 => exact fun _ _ _ h => h
        case hw77 => rfl
        case hy77 => (intro w hSw; (try dsimp only at hSw); go_simp <;> with_reducible rfl)
        simp only [Hp]
        refine wpAnyH_take (i := 16) (oi := ?oi78) (v := ?vv78) ?hi78 (by kernel_rfl) (by kernel_rfl) (by kernel_rfl) ?hq78 (Or.inl ⟨?hw78, ?hy78⟩) (by assumption) ?rs78
        case hi78 => (simp only [Hg]; rfl)
        case hq78 => exact fun _ _ _ h => h
        case hw78 => rfl
        case hy78 => (intro w hSw; (try dsimp only at hSw); go_simp <;> with_reducible rfl)
        simp only [Hp]
        refine wpAnyH_take (i := 17) (oi := ?oi79) (v := ?vv79) ?hi79 (by kernel_rfl) (by kernel_rfl) (by kernel_rfl) ?hq79 (Or.inl ⟨?hw79, ?hy79⟩) (by assumption) ?rs79
        case hi79 => (simp only [Hg]; rfl)
        case hq79 => exact fun _ _ _ h => h
        case hw79 => rfl
        case hy79 => (intro w hSw; (try dsimp only at hSw); go_simp <;> with_reducible rfl)
        simp only [Hp]
        refine wpAnyH_take (i := 18) (oi := ?oi80) (v := ?vv80) ?hi80 (by kernel_rfl) (by kernel_rfl) (by kernel_rfl) ?hq80 (Or.inl ⟨?hw80, ?hy80⟩) (by assumption) ?rs80
        case hi80 => (simp only [Hg]; rfl)
        case hq80 => exact fun _ _ _ h => h
        case hw80 => rfl
        case hy80 => (intro w hSw; (try dsimp only at hSw); go_simp <;> with_reducible rfl)
        simp only [Hp]
        refine wpAnyH_take (i := 19) (oi := ?oi81) (v := ?vv81) ?hi81 (by kernel_rfl) (by kernel_rfl) (by kernel_rfl) ?hq81 (Or.inl ⟨?hw81, ?hy81⟩) (by assumption) ?rs81
        case hi81 => (simp only [Hg]; rfl)
        case hq81 => exact fun _ _ _ h => h
        case hw81 => rfl
        case hy81 => (intro w hSw; (try dsimp only at hSw); go_simp <;> with_reducible rfl)
        simp only [Hp]
        refine wpAnyH_take (i := 20) (oi := ?oi82) (v := ?vv82) ?hi82 (by kernel_rfl) (by kernel_rfl) (by kernel_rfl) ?hq82 (Or.inl ⟨?hw82, ?hy82⟩) (by assumption) ?rs82
        case hi82 => (simp only [Hg]; rfl)
        case hq82 => exact fun _ _ _ h => h
        case hw82 => rfl
        case hy82 => (intro w hSw; (try dsimp only at hSw); go_simp <;> with_reducible rfl)
        simp only [Hp]
        refine wpAnyH_take (i := 21) (oi := ?oi83) (v := ?vv83) ?hi83 (by kernel_rfl) (by kernel_rfl) (by kernel_rfl) ?hq83 (Or.inl ⟨?hw83, ?hy83⟩) (by assumption) ?rs83
        case hi83 => (simp only [Hg]; rfl)
        case hq83 => exact fun _ _ _ h => h
        case hw83 => rfl
        case hy83 => (intro w hSw; (try dsimp only at hSw); go_simp <;> with_reducible rfl)
        simp only [Hp]
        refine wpAnyH_take (i := 22) (oi := ?oi84) (v := ?vv84) ?hi84 (by kernel_rfl) (by kernel_rfl) (by kernel_rfl) ?hq84 (Or.inl ⟨?hw84, ?hy84⟩) (by assumption) ?rs84
        case hi84 => (simp only [Hg]; rfl)
        case hq84 => exact fun _ _ _ h => h
        case hw84 => rfl
        case hy84 => (intro w hSw; (try dsimp only at hSw); go_simp <;> with_reducible rfl)
        simp only [Hp]
        refine wpAnyH_take (i := 23) (oi := ?oi85) (v := ?vv85) ?hi85 (by kernel_rfl) (by kernel_rfl) (by kernel_rfl) ?hq85 (Or.inl ⟨?hw85, ?hy85⟩) (by assumption) ?rs85
        case hi85 => (simp only [Hg]; rfl)
        case hq85 => exact fun _ _ _ h => h
        case hw85 => rfl
        case hy85 => (intro w hSw; (try dsimp only at hSw); go_simp <;> with_reducible rfl)
        simp only [Hp]
        refine wpAnyH_ready (rs := [24]) (by kernel_rfl) (by simp) (AllReadyH.cons (o := ?oi86) ?hi86 (fun K hK => ?rs86) AllReadyH.nil)
        case hi86 => (simp only [Hg]; rfl)
        go_simp
        (go_at_call 49; (with_reducible refine (HF5.out _ TD.out).mono ?_); rintro e w2 ⟨rfl, hb2⟩; have HB2 := Lib.hid hb2; have s3 : w.heap.size < w2.heap.size := Nat.lt_of_lt_of_le s2 hb2.size; have T2 := Lib.hid (TD.out.grow hb2))
        refine hK.out _ _ ?hs86 (fun hHeld => ?rt86)
        case hs86 => exact ⟨(hb2.cell (p := ⟨w.heap.size, 3, none⟩) s2).trans c3, (hb2.cell (p := ⟨w.heap.size, 5, none⟩) s2).trans c5, (hb2.cell (p := ⟨w.heap.size, 6, none⟩) s2).trans c6, (hb2.cell (p := ⟨w.heap.size, 7, none⟩) s2).trans c7⟩
        clear hK K
        try simp only [Hp]
        refine wpAnyH_take (i := 25) (oi := ?oi87) (v := ?vv87) ?hi87 (by kernel_rfl) (by kernel_rfl) (by kernel_rfl) ?hq87 (Or.inl ⟨?hw87, ?hy87⟩) (by assumption) ?rs87
        case hi87 => (simp only [Hg]; rfl)
        case hq87 => exact fun _ _ _ h => h
        case hw87 => rfl
        case hy87 => (intro w hSw; (try dsimp only at hSw); go_simp <;> with_reducible rfl)
        simp only [Hp]
        refine wpAnyH_take (i := 26) (oi := ?oi88) (v := ?vv88) ?hi88 (by kernel_rfl) (by kernel_rfl) (by kernel_rfl) ?hq88 (Or.inl ⟨?hw88, ?hy88⟩) (by assumption) ?rs88
        case hi88 => (simp only [Hg]; rfl)
        case hq88 => exact fun _ _ _ h => h
        case hw88 => rfl
        case hy88 => (intro w hSw; (try dsimp only at hSw); go_simp <;> with_reducible rfl)
        simp only [Hp]
        refine wpAnyH_take (i := 27) (oi := ?oi89) (v := ?vv89) ?hi89 (by kernel_rfl) (by kernel_rfl) (by kernel_rfl) ?hq89 (Or.inl ⟨?hw89, ?hy89⟩) (by assumption) ?rs89
        case hi89 => (simp only [Hg]; rfl)
        case hq89 => exact fun _ _ _ h => h
        case hw89 => rfl
        case hy89 => (intro w hSw; (try dsimp only at hSw); go_simp <;> with_reducible rfl)
        simp only [Hp]
        refine wpAnyH_take (i := 28) (oi := ?oi90) (v := ?vv90) ?hi90 (by kernel_rfl) (by kernel_rfl) (by kernel_rfl) ?hq90 (Or.inl ⟨?hw90, ?hy90⟩) (by assumption) ?rs90
        case hi90 => (simp only [Hg]; rfl)
        case hq90 => exact fun _ _ _ h => h
        case hw90 => rfl
        case hy90 => (intro w hSw; (try dsimp only at hSw); go_simp <;> with_reducible rfl)
        simp only [Hp]
        refine wpAnyH_done (by kernel_rfl) ?_ _
        go_wp2_with fail
        go_ret
        exact ⟨rfl, HB.out.drew.trans (HB2.out.mono (Nat.le_of_lt s2))⟩
  | false =>
    cases aw with
    | true =>
      by_cases hf3 : d = f3
      · have ef3 : ((d : Int) == (f3 : Int)) = true := by rw [beq_iff_eq]; omega
        rw [show decide (d = f3) = true from decide_eq_true hf3]
        clear hf3
        go_enter Tryz.func58, Tryz.ntmps58
        go_wp2_with fail
        refine wp_region_held_drew (S := fun W => W.cell? ⟨w.heap.size, 3, none⟩ = some (.int .u64 d) ∧ W.cell? ⟨w.heap.size, 5, none⟩ = some (.int .u64 f) ∧ W.cell? ⟨w.heap.size, 6, none⟩ = some (.bool false) ∧ W.cell? ⟨w.heap.size, 7, none⟩ = some (.bool true)) (by kernel_rfl) ?hs91 (fun hHeld => ?rs91)
        case hs91 => exact ⟨c3, c5, c6, c7⟩
        refine wpAnyH_take (i := 0) (oi := ?oi92) (v := ?vv92) ?hi92 (by kernel_rfl) (by kernel_rfl) (by kernel_rfl) ?hq92 (Or.inl ⟨?hw92, ?hy92⟩) (by assumption) ?rs92
        case hi92 => (simp only [Hg]; rfl)
        case hq92 => exact fun _ _ _ h => h
        case hw92 => rfl
        case hy92 => (intro w hSw; (try dsimp only at hSw); go_simp <;> with_reducible rfl)
        simp only [Hp]
        refine wpAnyH_take (i := 1) (oi := ?oi93) (v := ?vv93) ?hi93 (by kernel_rfl) (by kernel_rfl) (by kernel_rfl) ?hq93 (Or.inl ⟨?hw93, ?hy93⟩) (by assumption) ?rs93
        case hi93 => (simp only [Hg]; rfl)
        case hq93 => exact fun _ _ _ h => h
        case hw93 => rfl
        case hy93 => (intro w hSw; (try dsimp only at hSw); go_simp <;> with_reducible rfl)
        simp only [Hp]
        refine wpAnyH_take (i := 2) (oi := ?oi94) (v := ?vv94) ?hi94 (by kernel_rfl) (by kernel_rfl) (by kernel_rfl) ?hq94 (Or.inl ⟨?hw94, ?hy94⟩) (by assumption) ?rs94
        case hi94 => (simp only [Hg]; rfl)
        case hq94 => exact fun _ _ _ h => h
        case hw94 => rfl
        case hy94 => (intro w hSw; (try dsimp only at hSw); go_simp <;> with_reducible rfl)
        simp only [Hp]
        refine wpAnyH_take (i := 3) (oi := ?oi95) (v := undef) ?hi95 (by kernel_rfl) (by kernel_rfl) (by kernel_rfl) ?hq95 (Or.inr ⟨?hw95, rfl⟩) (by assumption) ?rs95
        case hi95 => (simp only [Hg]; rfl)
        case hq95 => exact fun _ _ _ h => h
        case hw95 => rfl
        simp only [Hp]
        refine wpAnyH_take (i := 4) (oi := ?oi96) (v := undef) ?hi96 (by kernel_rfl) (by kernel_rfl) (by kernel_rfl) ?hq96 (Or.inr ⟨?hw96, rfl⟩) (by assumption) ?rs96
        case hi96 => (simp only [Hg]; rfl)
        case hq96 => exact fun _ _ _ h => h
        case hw96 => rfl
        simp only [Hp]
        refine wpAnyH_take (i := 5) (oi := ?oi97) (v := ?vv97) ?hi97 (by kernel_rfl) (by kernel_rfl) (by kernel_rfl) ?hq97 (Or.inl ⟨?hw97, ?hy97⟩) (by assumption) ?rs97
        case hi97 => (simp only [Hg]; rfl)
        case hq97 => exact fun _ _ _ h => h
        case hw97 => rfl
        case hy97 => (intro w hSw; (try dsimp only at hSw); go_simp <;> with_reducible rfl)
        simp only [Hp]
        refine wpAnyH_take (i := 6) (oi := ?oi98) (v := ?vv98) ?hi98 (by kernel_rfl) (by kernel_rfl) (by kernel_rfl) ?hq98 (Or.inl ⟨?hw98, ?hy98⟩) (by assumption) ?rs98
        case hi98 => (simp only [Hg]; rfl)
        case hq98 => exact fun _ _ _ h => h
        case hw98 => rfl
        case hy98 => (intro w hSw; (try dsimp only at hSw); go_simp <;> with_reducible rfl)
        simp only [Hp]
        refine wpAnyH_take (i := 7) (oi := ?oi99) (v := ?vv99) ?hi99 (by kernel_rfl) (by kernel_rfl) (by kernel_rfl) ?hq99 (Or.inl ⟨?hw99, ?hy99⟩) (by assumption) ?rs99
        case hi99 => (simp only [Hg]; rfl)
        case hq99 => exact fun _ _ _ h => h
        case hw99 => rfl
        case hy99 => (intro w hSw; (try dsimp only at hSw); go_simp <;> with_reducible rfl)
        simp only [Hp]
        refine wpAnyH_take (i := 8) (oi := ?oi100) (v := ?vv100) ?hi100 (by kernel_rfl) (by kernel_rfl) (by kernel_rfl) ?hq100 (Or.inl ⟨?hw100, ?hy100⟩) (by assumption) ?rs100
        case hi100 => (simp only [Hg]; rfl)
        case hq100 => exact fun _ _ _ h => h
        case hw100 => rfl
        case hy100 => (intro w hSw; (try dsimp only at hSw); go_simp <;> with_reducible rfl)
        simp only [Hp]
        refine wpAnyH_take (i := 9) (oi := ?oi101) (v := ?vv101) ?hi101 (by kernel_rfl) (by kernel_rfl) (by kernel_rfl) ?hq101 (Or.inl ⟨?hw101, ?hy101⟩) (by assumption) ?rs101
        case hi101 => (simp only [Hg]; rfl)
        case hq101 => exact fun _ _ _ h => h
        case hw101 => rfl
        case hy101 => (intro w hSw; (try dsimp only at hSw); go_simp <;> with_reducible rfl)
        simp only [Hp]
        refine wpAnyH_take (i := 10) (oi := ?oi102) (v := ?vv102) ?hi102 (by kernel_rfl) (by kernel_rfl) (by kernel_rfl) ?hq102 (Or.inl ⟨?hw102, ?hy102⟩) (by assumption) ?rs102
        case hi102 => (simp only [Hg]; rfl)
        case hq102 => exact fun _ _ _ h => h
        case hw102 => rfl
        case hy102 => (intro w hSw; (try dsimp only at hSw); go_simp <;> with_reducible rfl)
        simp only [Hp]
        refine wpAnyH_take (i := 11) (oi := ?oi103) (v := ?vv103) ?hi103 (by kernel_rfl) (by kernel_rfl) (by kernel_rfl) ?hq103 (Or.inl ⟨?hw103, ?hy103⟩) (by assumption) ?rs103
        case hi103 => (simp only [Hg]; rfl)
        case hq103 => exact fun _ _ _ h => h
        case hw103 => rfl
        case hy103 => (intro w hSw; (try dsimp only at hSw); go_simp <;> with_reducible rfl)
        simp only [Hp]
        refine wpAnyH_take (i := 12) (oi := ?oi104) (v := ?vv104) ?hi104 (by kernel_rfl) (by kernel_rfl) (by kernel_rfl) ?hq104 (Or.inl ⟨?hw104, ?hy104⟩) (by assumption) ?rs104
        case hi104 => (simp only [Hg]; rfl)
        case hq104 => exact fun _ _ _ h => h
        case hw104 => rfl
        case hy104 => (intro w hSw; (try dsimp only at hSw); go_simp <;> with_reducible rfl)
        simp only [Hp]
        refine wpAnyH_ready (rs := [13]) (by kernel_rfl) (by simp) (AllReadyH.cons (o := ?oi105) ?hi105 (fun K hK => ?rs105) AllReadyH.nil)
        case hi105 => (simp only [Hg]; rfl)
        go_simp
        (go_at_call 49; (with_reducible refine (HF3.out _ TD.out).mono ?_); rintro e w2 ⟨rfl, hb2⟩; have HB2 := Lib.hid hb2; have s3 : w.heap.size < w2.heap.size := Nat.lt_of_lt_of_le s2 hb2.size; have T2 := Lib.hid (TD.out.grow hb2))
        refine hK.out _ _ ?hs105 (fun hHeld => ?rt105)
        case hs105 => exact ⟨(hb2.cell (p := ⟨w.heap.size, 3, none⟩) s2).trans c3, (hb2.cell (p := ⟨w.heap.size, 5, none⟩) s2).trans c5, (hb2.cell (p := ⟨w.heap.size, 6, none⟩) s2).trans c6, (hb2.cell (p := ⟨w.heap.size, 7, none⟩) s2).trans c7⟩
        clear hK K
        try simp only [Hp]
        refine wpAnyH_take (i := 14) (oi := ?oi106) (v := ?vv106) ?hi106 (by kernel_rfl) (by kernel_rfl) (by kernel_rfl) ?hq106 (Or.inl ⟨?hw106, ?hy106⟩) (by assumption) ?rs106
        case hi106 => (simp only [Hg]; rfl)
        case hq106 => exact fun _ _ _ h => h
        case hw106 => rfl
        case hy106 => (intro w hSw; (try dsimp only at hSw); go_simp <;> with_reducible rfl)
        simp only [Hp]
        refine wpAnyH_take (i := 15) (oi := ?oi107) (v := ?vv107) ?hi107 (by kernel_rfl) (by kernel_rfl) (by kernel_rfl) ?hq107 (Or.inl ⟨?hw107, ?hy107⟩) (by assumption) ?rs107
        case hi107 => (simp only [Hg]; rfl)
        case hq107 => exact fun _ _ _ h => h
        case hw107 => rfl
        case hy107 => (intro w hSw; (try dsimp only at hSw); go_simp <;> with_reducible rfl)
        simp only [Hp]
        refine wpAnyH_take (i := 16) (oi := ?oi108) (v := ?vv108) ?hi108 (by kernel_rfl) (by kernel_rfl) (by kernel_rfl) ?hq108 (Or.inl ⟨?hw108, ?hy108⟩) (by assumption) ?rs108
        case hi108 => (simp only [Hg]; rfl)
        case hq108 => exact fun _ _ _ h => h
        case hw108 => rfl
        case hy108 => (intro w hSw; (try dsimp only at hSw); go_simp <;> with_reducible rfl)
        simp only [Hp]
        refine wpAnyH_take (i := 17) (oi := ?oi109) (v := ?vv109) ?hi109 (by kernel_rfl) (by kernel_rfl) (by kernel_rfl) ?hq109 (Or.inl ⟨?hw109, ?hy109⟩) (by assumption) ?rs109
        case hi109 => (simp only [Hg]; rfl)
        case hq109 => exact fun _ _ _ h => h
        case hw109 => rfl
        case hy109 => (intro w hSw; (try dsimp only at hSw); go_simp <;> with_reducible rfl)
        simp only [Hp]
        refine wpAnyH_take (i := 18) (oi := ?oi110) (v := undef) ?hi110 (by kernel_rfl) (by kernel_rfl) (by kernel_rfl) ?hq110 (Or.inr ⟨?hw110, rfl⟩) (by assumption) ?rs110
        case hi110 => (simp only [Hg]; rfl)
        case hq110 => exact fun _ _ _ h => h
        case hw110 => rfl
        simp only [Hp]
        refine wpAnyH_take (i := 19) (oi := ?oi111) (v := undef) ?hi111 (by kernel_rfl) (by kernel_rfl) (by kernel_rfl) ?hq111 (Or.inr ⟨?hw111, rfl⟩) (by assumption) ?rs111
        case hi111 => (simp only [Hg]; rfl)
        case hq111 => exact fun _ _ _ h => h
        case hw111 => rfl
        simp only [Hp]
        refine wpAnyH_take (i := 20) (oi := ?oi112) (v := undef) ?hi112 (by kernel_rfl) (by kernel_rfl) (by kernel_rfl) ?hq112 (Or.inr ⟨?hw112, rfl⟩) (by assumption) ?rs112
        case hi112 => (simp only [Hg]; rfl)
        case hq112 => exact fun _ _ _ h => h
        case hw112 => rfl
        simp only [Hp]
        refine wpAnyH_take (i := 21) (oi := ?oi113) (v := undef) ?hi113 (by kernel_rfl) (by kernel_rfl) (by kernel_rfl) ?hq113 (Or.inr ⟨?hw113, rfl⟩) (by assumption) ?rs113
        case hi113 => (simp only [Hg]; rfl)
        case hq113 => exact fun _ _ _ h => h
        case hw113 => rfl
        simp only [Hp]
        refine wpAnyH_take (i := 22) (oi := ?oi114) (v := undef) ?hi114 (by kernel_rfl) (by kernel_rfl) (by kernel_rfl) ?hq114 (Or.inr ⟨?hw114, rfl⟩) (by assumption) ?rs114
        case hi114 => (simp only [Hg]; rfl)
        case hq114 => exact fun _ _ _ h => h
        case hw114 => rfl
        simp only [Hp]
        refine wpAnyH_take (i := 23) (oi := ?oi115) (v := undef) ?hi115 (by kernel_rfl) (by kernel_rfl) (by kernel_rfl) ?hq115 (Or.inr ⟨?hw115, rfl⟩) (by assumption) ?rs115
        case hi115 => (simp only [Hg]; rfl)
        case hq115 => exact fun _ _ _ h => h
        case hw115 => rfl
        simp only [Hp]
        refine wpAnyH_ready (rs := [24]) (by kernel_rfl) (by simp) (AllReadyH.cons (o := ?oi116) ?hi116 (fun K hK => ?rs116) AllReadyH.nil)
        case hi116 => (simp only [Hg]; rfl)
        go_simp
        refine hK.out _ _ ?hs116 (fun hHeld => ?rt116)
        case hs116 => assumption
        clear hK K
        try simp only [Hp]
        refine wpAnyH_take (i := 25) (oi := ?oi117) (v := undef) ?hi117 (by kernel_rfl) (by kernel_rfl) (by kernel_rfl) ?hq117 (Or.inr ⟨?hw117, rfl⟩) (by assumption) ?rs117
        case hi117 => (simp only [Hg]; rfl)
        case hq117 => exact fun _ _ _ h => h
        case hw117 => rfl
        simp only [Hp]
        refine wpAnyH_take (i := 26) (oi := ?oi118) (v := undef) ?hi118 (by kernel_rfl) (by kernel_rfl) (by kernel_rfl) ?hq118 (Or.inr ⟨?hw118, rfl⟩) (by assumption) ?rs118
        case hi118 => (simp only [Hg]; rfl)
        case hq118 => exact fun _ _ _ h => h
        case hw118 => rfl
        simp only [Hp]
        refine wpAnyH_take (i := 27) (oi := ?oi119) (v := ?vv119) ?hi119 (by kernel_rfl) (by kernel_rfl) (by kernel_rfl) ?hq119 (Or.inl ⟨?hw119, ?hy119⟩) (by assumption) ?rs119
        case hi119 => (simp only [Hg]; rfl)
        case hq119 => exact fun _ _ _ h => h
        case hw119 => rfl
        case hy119 => (intro w hSw; (try dsimp only at hSw); go_simp <;> with_reducible rfl)
        simp only [Hp]
        refine wpAnyH_take (i := 28) (oi := ?oi120) (v := ?vv120) ?hi120 (by kernel_rfl) (by kernel_rfl) (by kernel_rfl) ?hq120 (Or.inl ⟨?hw120, ?hy120⟩) (by assumption) ?rs120
        case hi120 => (simp only [Hg]; rfl)
        case hq120 => exact fun _ _ _ h => h
        case hw120 => rfl
        case hy120 => (intro w hSw; (try dsimp only at hSw); go_simp <;> with_reducible rfl)
        simp only [Hp]
        refine wpAnyH_done (by kernel_rfl) ?_ _
        go_wp2_with fail
        go_ret
        exact ⟨rfl, HB.out.drew.trans (HB2.out.mono (Nat.le_of_lt s2))⟩
      · have ef3 : ((d : Int) == (f3 : Int)) = false := by rw [beq_eq_false_iff_ne]; omega
        rw [show decide (d = f3) = false from decide_eq_false hf3]
        clear hf3
        go_enter Tryz.func58, Tryz.ntmps58
        go_wp2_with fail
        refine wp_region_held_drew (S := fun W => W.cell? ⟨w.heap.size, 3, none⟩ = some (.int .u64 d) ∧ W.cell? ⟨w.heap.size, 5, none⟩ = some (.int .u64 f) ∧ W.cell? ⟨w.heap.size, 6, none⟩ = some (.bool false) ∧ W.cell? ⟨w.heap.size, 7, none⟩ = some (.bool true)) (by kernel_rfl) ?hs121 (fun hHeld => ?rs121)
        case hs121 => exact ⟨c3, c5, c6, c7⟩
        refine wpAnyH_take (i := 0) (oi := ?oi122) (v := ?vv122) ?hi122 (by kernel_rfl) (by kernel_rfl) (by kernel_rfl) ?hq122 (Or.inl ⟨?hw122, ?hy122⟩) (by assumption) ?rs122
        case hi122 => (simp only [Hg]; rfl)
        case hq122 => exact fun _ _ _ h => h
        case hw122 => rfl
        case hy122 => (intro w hSw; (try dsimp only at hSw); go_simp <;> with_reducible rfl)
        simp only [Hp]
        refine wpAnyH_take (i := 1) (oi := ?oi123) (v := ?vv123) ?hi123 (by kernel_rfl) (by kernel_rfl) (by kernel_rfl) ?hq123 (Or.inl ⟨?hw123, ?hy123⟩) (by assumption) ?rs123
        case hi123 => (simp only [Hg]; rfl)
        case hq123 => exact fun _ _ _ h => h
        case hw123 => rfl
        case hy123 => (intro w hSw; (try dsimp only at hSw); go_simp <;> with_reducible rfl)
        simp only [Hp]
        refine wpAnyH_take (i := 2) (oi := ?oi124) (v := ?vv124) ?hi124 (by kernel_rfl) (by kernel_rfl) (by kernel_rfl) ?hq124 (Or.inl ⟨?hw124, ?hy124⟩) (by assumption) ?rs124
        case hi124 => (simp only [Hg]; rfl)
        case hq124 => exact fun _ _ _ h => h
        case hw124 => rfl
        case hy124 => (intro w hSw; (try dsimp only at hSw); go_simp <;> with_reducible rfl)
        simp only [Hp]
        refine wpAnyH_take (i := 3) (oi := ?oi125) (v := undef) ?hi125 (by kernel_rfl) (by kernel_rfl) (by kernel_rfl) ?hq125 (Or.inr ⟨?hw125, rfl⟩) (by assumption) ?rs125
        case hi125 => (simp only [Hg]; rfl)
        case hq125 => exact fun _ _ _ h => h
        case hw125 => rfl
        simp only [Hp]
        refine wpAnyH_take (i := 4) (oi := ?oi126) (v := undef) ?hi126 (by kernel_rfl) (by kernel_rfl) (by kernel_rfl) ?hq126 (Or.inr ⟨?hw126, rfl⟩) (by assumption) ?rs126
        case hi126 => (simp only [Hg]; rfl)
        case hq126 => exact fun _ _ _ h => h
        case hw126 => rfl
        simp only [Hp]
        refine wpAnyH_take (i := 5) (oi := ?oi127) (v := ?vv127) ?hi127 (by kernel_rfl) (by kernel_rfl) (by kernel_rfl) ?hq127 (Or.inl ⟨?hw127, ?hy127⟩) (by assumption) ?rs127
        case hi127 => (simp only [Hg]; rfl)
        case hq127 => exact fun _ _ _ h => h
        case hw127 => rfl
        case hy127 => (intro w hSw; (try dsimp only at hSw); go_simp <;> with_reducible rfl)
        simp only [Hp]
        refine wpAnyH_take (i := 6) (oi := ?oi128) (v := ?vv128) ?hi128 (by kernel_rfl) (by kernel_rfl) (by kernel_rfl) ?hq128 (Or.inl ⟨?hw128, ?hy128⟩) (by assumption) ?rs128
        case hi128 => (simp only [Hg]; rfl)
        case hq128 => exact fun _ _ _ h => h
        case hw128 => rfl
        case hy128 => (intro w hSw; (try dsimp only at hSw); go_simp <;> with_reducible rfl)
        simp only [Hp]
        refine wpAnyH_take (i := 7) (oi := ?oi129) (v := ?vv129) ?hi129 (by kernel_rfl) (by kernel_rfl) (by kernel_rfl) ?hq129 (Or.inl ⟨?hw129, ?hy129⟩) (by assumption) ?rs129
        case hi129 => (simp only [Hg]; rfl)
        case hq129 => exact fun _ _ _ h => h
        case hw129 => rfl
        case hy129 => (intro w hSw; (try dsimp only at hSw); go_simp <;> with_reducible rfl)
        simp only [Hp]
        refine wpAnyH_take (i := 8) (oi := ?oi130) (v := ?vv130) ?hi130 (by kernel_rfl) (by kernel_rfl) (by kernel_rfl) ?hq130 (Or.inl ⟨?hw130, ?hy130⟩) (by assumption) ?rs130
        case hi130 => (simp only [Hg]; rfl)
        case hq130 => exact fun _ _ _ h => h
        case hw130 => rfl
        case hy130 => (intro w hSw; (try dsimp only at hSw); go_simp <;> with_reducible rfl)
        simp only [Hp]
        refine wpAnyH_take (i := 9) (oi := ?oi131) (v := ?vv131) ?hi131 (by kernel_rfl) (by kernel_rfl) (by kernel_rfl) ?hq131 (Or.inl ⟨?hw131, ?hy131⟩) (by assumption) ?rs131
        case hi131 => (simp only [Hg]; rfl)
        case hq131 => exact fun _ _ _ h => h
        case hw131 => rfl
        case hy131 => (intro w hSw; (try dsimp only at hSw); go_simp <;> with_reducible rfl)
        simp only [Hp]
        refine wpAnyH_take (i := 10) (oi := ?oi132) (v := ?vv132) ?hi132 (by kernel_rfl) (by kernel_rfl) (by kernel_rfl) ?hq132 (Or.inl ⟨?hw132, ?hy132⟩) (by assumption) ?rs132
        case hi132 => (simp only [Hg]; rfl)
        case hq132 => exact fun _ _ _ h => h
        case hw132 => rfl
        case hy132 => (intro w hSw; (try dsimp only at hSw); go_simp <;> with_reducible rfl)
        simp only [Hp]
        refine wpAnyH_take (i := 11) (oi := ?oi133) (v := ?vv133) ?hi133 (by kernel_rfl) (by kernel_rfl) (by kernel_rfl) ?hq133 (Or.inl ⟨?hw133, ?hy133⟩) (by assumption) ?rs133
        case hi133 => (simp only [Hg]; rfl)
        case hq133 => exact fun _ _ _ h => h
        case hw133 => rfl
        case hy133 => (intro w hSw; (try dsimp only at hSw); go_simp <;> with_reducible rfl)
        simp only [Hp]
        refine wpAnyH_take (i := 12) (oi := ?oi134) (v := ?vv134) ?hi134 (by kernel_rfl) (by kernel_rfl) (by kernel_rfl) ?hq134 (Or.inl ⟨?hw134, ?hy134⟩) (by assumption) ?rs134
        case hi134 => (simp only [Hg]; rfl)
        case hq134 => exact fun _ _ _ h => h
        case hw134 => rfl
        case hy134 => (intro w hSw; (try dsimp only at hSw); go_simp <;> with_reducible rfl)
        simp only [Hp]
        refine wpAnyH_ready (rs := [13]) (by kernel_rfl) (by simp) (AllReadyH.cons (o := ?oi135) ?hi135 (fun K hK => ?rs135) AllReadyH.nil)
        case hi135 => (simp only [Hg]; rfl)
        go_simp
        (go_at_call 49; (with_reducible refine (HF3.out _ TD.out).mono ?_); rintro e w2 ⟨rfl, hb2⟩; have HB2 := Lib.hid hb2; have s3 : w.heap.size < w2.heap.size := Nat.lt_of_lt_of_le s2 hb2.size; have T2 := Lib.hid (TD.out.grow hb2))
        refine hK.out _ _ ?hs135 (fun hHeld => ?rt135)
        case hs135 => exact ⟨(hb2.cell (p := ⟨w.heap.size, 3, none⟩) s2).trans c3, (hb2.cell (p := ⟨w.heap.size, 5, none⟩) s2).trans c5, (hb2.cell (p := ⟨w.heap.size, 6, none⟩) s2).trans c6, (hb2.cell (p := ⟨w.heap.size, 7, none⟩) s2).trans c7⟩
        clear hK K
        try simp only [Hp]
        refine wpAnyH_take (i := 14) (oi := ?oi136) (v := ?vv136) ?hi136 (by kernel_rfl) (by kernel_rfl) (by kernel_rfl) ?hq136 (Or.inl ⟨?hw136, ?hy136⟩) (by assumption) ?rs136
        case hi136 => (simp only [Hg]; rfl)
        case hq136 => exact fun _ _ _ h => h
        case hw136 => rfl
        case hy136 => (intro w hSw; (try dsimp only at hSw); go_simp <;> with_reducible rfl)
        simp only [Hp]
        refine wpAnyH_take (i := 15) (oi := ?oi137) (v := ?vv137) ?hi137 (by kernel_rfl) (by kernel_rfl) (by kernel_rfl) ?hq137 (Or.inl ⟨?hw137, ?hy137⟩) (by assumption) ?rs137
        case hi137 => (simp only [Hg]; rfl)
        case hq137 => exact fun _ _ _ h => h
        case hw137 => rfl
        case hy137 => (intro w hSw; (try dsimp only at hSw); go_simp <;> with_reducible rfl)
        simp only [Hp]
        refine wpAnyH_take (i := 16) (oi := ?oi138) (v := ?vv138) ?hi138 (by kernel_rfl) (by kernel_rfl) (by kernel_rfl) ?hq138 (Or.inl ⟨?hw138, ?hy138⟩) (by assumption) ?rs138
        case hi138 => (simp only [Hg]; rfl)
        case hq138 => exact fun _ _ _ h => h
        case hw138 => rfl
        case hy138 => (intro w hSw; (try dsimp only at hSw); go_simp <;> with_reducible rfl)
        simp only [Hp]
        refine wpAnyH_take (i := 17) (oi := ?oi139) (v := ?vv139) ?hi139 (by kernel_rfl) (by kernel_rfl) (by kernel_rfl) ?hq139 (Or.inl ⟨?hw139, ?hy139⟩) (by assumption) ?rs139
        case hi139 => (simp only [Hg]; rfl)
        case hq139 => exact fun _ _ _ h => h
        case hw139 => rfl
        case hy139 => (intro w hSw; (try dsimp only at hSw); go_simp <;> with_reducible rfl)
        simp only [Hp]
        refine wpAnyH_take (i := 18) (oi := ?oi140) (v := ?vv140) ?hi140 (by kernel_rfl) (by kernel_rfl) (by kernel_rfl) ?hq140 (Or.inl ⟨?hw140, ?hy140⟩) (by assumption) ?rs140
        case hi140 => (simp only [Hg]; rfl)
        case hq140 => exact fun _ _ _ h => h
        case hw140 => rfl
        case hy140 => (intro w hSw; (try dsimp only at hSw); go_simp <;> with_reducible rfl)
        simp only [Hp]
        refine wpAnyH_take (i := 19) (oi := ?oi141) (v := ?vv141) ?hi141 (by kernel_rfl) (by kernel_rfl) (by kernel_rfl) ?hq141 (Or.inl ⟨?hw141, ?hy141⟩) (by assumption) ?rs141
        case hi141 => (simp only [Hg]; rfl)
        case hq141 => exact fun _ _ _ h => h
        case hw141 => rfl
        case hy141 => (intro w hSw; (try dsimp only at hSw); go_simp <;> with_reducible rfl)
        simp only [Hp]
        refine wpAnyH_take (i := 20) (oi := ?oi142) (v := ?vv142) ?hi142 (by kernel_rfl) (by kernel_rfl) (by kernel_rfl) ?hq142 (Or.inl ⟨?hw142, ?hy142⟩) (by assumption) ?rs142
        case hi142 => (simp only [Hg]; rfl)
        case hq142 => exact fun _ _ _ h => h
        case hw142 => rfl
        case hy142 => (intro w hSw; (try dsimp only at hSw); go_simp <;> with_reducible rfl)
        simp only [Hp]
        refine wpAnyH_take (i := 21) (oi := ?oi143) (v := ?vv143) ?hi143 (by kernel_rfl) (by kernel_rfl) (by kernel_rfl) ?hq143 (Or.inl ⟨?hw143, ?hy143⟩) (by assumption) ?rs143
        case hi143 => (simp only [Hg]; rfl)
        case hq143 => exact fun _ _ _ h => h
        case hw143 => rfl
        case hy143 => (intro w hSw; (try dsimp only at hSw); go_simp <;> with_reducible rfl)
        simp only [Hp]
        refine wpAnyH_take (i := 22) (oi := ?oi144) (v := undef) ?hi144 (by kernel_rfl) (by kernel_rfl) (by kernel_rfl) ?hq144 (Or.inr ⟨?hw144, rfl⟩) (by assumption) ?rs144
        case hi144 => (simp only [Hg]; rfl)
        case hq144 => exact fun _ _ _ h => h
        case hw144 => rfl
        simp only [Hp]
        refine wpAnyH_take (i := 23) (oi := ?oi145) (v := undef) ?hi145 (by kernel_rfl) (by kernel_rfl) (by kernel_rfl) ?hq145 (Or.inr ⟨?hw145, rfl⟩) (by assumption) ?rs145
        case hi145 => (simp only [Hg]; rfl)
        case hq145 => exact fun _ _ _ h => h
        case hw145 => rfl
        simp only [Hp]
        refine wpAnyH_ready (rs := [24]) (by kernel_rfl) (by simp) (AllReadyH.cons (o := ?oi146) ?hi146 (fun K hK => ?rs146) AllReadyH.nil)
        case hi146 => (simp only [Hg]; rfl)
        go_simp
        refine hK.out _ _ ?hs146 (fun hHeld => ?rt146)
        case hs146 => assumption
        clear hK K
        try simp only [Hp]
        refine wpAnyH_take (i := 25) (oi := ?oi147) (v := undef) ?hi147 (by kernel_rfl) (by kernel_rfl) (by kernel_rfl) ?hq147 (Or.inr ⟨?hw147, rfl⟩) (by assumption) ?rs147
        case hi147 => (simp only [Hg]; rfl)
        case hq147 => exact fun _ _ _ h => h
        case hw147 => rfl
        simp only [Hp]
        refine wpAnyH_take (i := 26) (oi := ?oi148) (v := ?vv148) ?hi148 (by kernel_rfl) (by kernel_rfl) (by kernel_rfl) ?hq148 (Or.inl ⟨?hw148, ?hy148⟩) (by assumption) ?rs148
        case hi148 => (simp only [Hg]; rfl)
        case hq148 => exact fun _ _ _ h => h
        case hw148 => rfl
        case hy148 => (intro w hSw; (try dsimp only at hSw); go_simp <;> with_reducible rfl)
        simp only [Hp]
        refine wpAnyH_take (i := 27) (oi := ?oi149) (v := ?vv149) ?hi149 (by kernel_rfl) (by kernel_rfl) (by kernel_rfl) ?hq149 (Or.inl ⟨?hw149, ?hy149⟩) (by assumption) ?rs149
        case hi149 => (simp only [Hg]; rfl)
        case hq149 => exact fun _ _ _ h => h
        case hw149 => rfl
        case hy149 => (intro w hSw; (try dsimp only at hSw); go_simp <;> with_reducible rfl)
        simp only [Hp]
        refine wpAnyH_take (i := 28) (oi := ?oi150) (v := ?vv150) ?hi150 (by kernel_rfl) (by kernel_rfl) (by kernel_rfl) ?hq150 (Or.inl ⟨?hw150, ?hy150⟩) (by assumption) ?rs150
        case hi150 => (simp only [Hg]; rfl)
        case hq150 => exact fun _ _ _ h => h
        case hw150 => rfl
        case hy150 => (intro w hSw; (try dsimp only at hSw); go_simp <;> with_reducible rfl)
        simp only [Hp]
        refine wpAnyH_done (by kernel_rfl) ?_ _
        go_wp2_with fail
        go_ret
        exact ⟨rfl, HB.out.drew.trans (HB2.out.mono (Nat.le_of_lt s2))⟩
    | false =>
      by_cases hf3 : d = f3
      · have ef3 : ((d : Int) == (f3 : Int)) = true := by rw [beq_iff_eq]; omega
        rw [show decide (d = f3) = true from decide_eq_true hf3]
        clear hf3
        go_enter Tryz.func58, Tryz.ntmps58
        go_wp2_with fail
        refine wp_region_held_drew (S := fun W => W.cell? ⟨w.heap.size, 3, none⟩ = some (.int .u64 d) ∧ W.cell? ⟨w.heap.size, 5, none⟩ = some (.int .u64 f) ∧ W.cell? ⟨w.heap.size, 6, none⟩ = some (.bool false) ∧ W.cell? ⟨w.heap.size, 7, none⟩ = some (.bool false)) (by kernel_rfl) ?hs151 (fun hHeld => ?rs151)
        case hs151 => exact ⟨c3, c5, c6, c7⟩
        refine wpAnyH_take (i := 0) (oi := ?oi152) (v := ?vv152) ?hi152 (by kernel_rfl) (by kernel_rfl) (by kernel_rfl) ?hq152 (Or.inl ⟨?hw152, ?hy152⟩) (by assumption) ?rs152
        case hi152 => (simp only [Hg]; rfl)
        case hq152 => exact fun _ _ _ h => h
        case hw152 => rfl
        case hy152 => (intro w hSw; (try dsimp only at hSw); go_simp <;> with_reducible rfl)
        simp only [Hp]
        refine wpAnyH_take (i := 1) (oi := ?oi153) (v := ?vv153) ?hi153 (by kernel_rfl) (by kernel_rfl) (by kernel_rfl) ?hq153 (Or.inl ⟨?hw153, ?hy153⟩) (by assumption) ?rs153
        case hi153 => (simp only [Hg]; rfl)
        case hq153 => exact fun _ _ _ h => h
        case hw153 => rfl
        case hy153 => (intro w hSw; (try dsimp only at hSw); go_simp <;> with_reducible rfl)
        simp only [Hp]
        refine wpAnyH_take (i := 2) (oi := ?oi154) (v := ?vv154) ?hi154 (by kernel_rfl) (by kernel_rfl) (by kernel_rfl) ?hq154 (Or.inl ⟨?hw154, ?hy154⟩) (by assumption) ?rs154
        case hi154 => (simp only [Hg]; rfl)
        case hq154 => exact fun _ _ _ h => h
        case hw154 => rfl
        case hy154 => (intro w hSw; (try dsimp only at hSw); go_simp <;> with_reducible rfl)
        simp only [Hp]
        refine wpAnyH_take (i := 3) (oi := ?oi155) (v := undef) ?hi155 (by kernel_rfl) (by kernel_rfl) (by kernel_rfl) ?hq155 (Or.inr ⟨?hw155, rfl⟩) (by assumption) ?rs155
        case hi155 => (simp only [Hg]; rfl)
        case hq155 => exact fun _ _ _ h => h
        case hw155 => rfl
        simp only [Hp]
        refine wpAnyH_take (i := 4) (oi := ?oi156) (v := undef) ?hi156 (by kernel_rfl) (by kernel_rfl) (by kernel_rfl) ?hq156 (Or.inr ⟨?hw156, rfl⟩) (by assumption) ?rs156
        case hi156 => (simp only [Hg]; rfl)
        case hq156 => exact fun _ _ _ h => h
        case hw156 => rfl
        simp only [Hp]
        refine wpAnyH_take (i := 5) (oi := ?oi157) (v := ?vv157) ?hi157 (by kernel_rfl) (by kernel_rfl) (by kernel_rfl) ?hq157 (Or.inl ⟨?hw157, ?hy157⟩) (by assumption) ?rs157
        case hi157 => (simp only [Hg]; rfl)
        case hq157 => exact fun _ _ _ h => h
        case hw157 => rfl
        case hy157 => (intro w hSw; (try dsimp only at hSw); go_simp <;> with_reducible rfl)
        simp only [Hp]
        refine wpAnyH_take (i := 6) (oi := ?oi158) (v := ?vv158) ?hi158 (by kernel_rfl) (by kernel_rfl) (by kernel_rfl) ?hq158 (Or.inl ⟨?hw158, ?hy158⟩) (by assumption) ?rs158
        case hi158 => (simp only [Hg]; rfl)
        case hq158 => exact fun _ _ _ h => h
        case hw158 => rfl
        case hy158 => (intro w hSw; (try dsimp only at hSw); go_simp <;> with_reducible rfl)
        simp only [Hp]
        refine wpAnyH_take (i := 7) (oi := ?oi159) (v := ?vv159) ?hi159 (by kernel_rfl) (by kernel_rfl) (by kernel_rfl) ?hq159 (Or.inl ⟨?hw159, ?hy159⟩) (by assumption) ?rs159
        case hi159 => (simp only [Hg]; rfl)
        case hq159 => exact fun _ _ _ h => h
        case hw159 => rfl
        case hy159 => (intro w hSw; (try dsimp only at hSw); go_simp <;> with_reducible rfl)
        simp only [Hp]
        refine wpAnyH_take (i := 8) (oi := ?oi160) (v := ?vv160) ?hi160 (by kernel_rfl) (by kernel_rfl) (by kernel_rfl) ?hq160 (Or.inl ⟨?hw160, ?hy160⟩) (by assumption) ?rs160
        case hi160 => (simp only [Hg]; rfl)
        case hq160 => exact fun _ _ _ h => h
        case hw160 => rfl
        case hy160 => (intro w hSw; (try dsimp only at hSw); go_simp <;> with_reducible rfl)
        simp only [Hp]
        refine wpAnyH_take (i := 9) (oi := ?oi161) (v := ?vv161) ?hi161 (by kernel_rfl) (by kernel_rfl) (by kernel_rfl) ?hq161 (Or.inl ⟨?hw161, ?hy161⟩) (by assumption) ?rs161
        case hi161 => (simp only [Hg]; rfl)
        case hq161 => exact fun _ _ _ h => h
        case hw161 => rfl
        case hy161 => (intro w hSw; (try dsimp only at hSw); go_simp <;> with_reducible rfl)
        simp only [Hp]
        refine wpAnyH_take (i := 10) (oi := ?oi162) (v := ?vv162) ?hi162 (by kernel_rfl) (by kernel_rfl) (by kernel_rfl) ?hq162 (Or.inl ⟨?hw162, ?hy162⟩) (by assumption) ?rs162
        case hi162 => (simp only [Hg]; rfl)
        case hq162 => exact fun _ _ _ h => h
        case hw162 => rfl
        case hy162 => (intro w hSw; (try dsimp only at hSw); go_simp <;> with_reducible rfl)
        simp only [Hp]
        refine wpAnyH_take (i := 11) (oi := ?oi163) (v := ?vv163) ?hi163 (by kernel_rfl) (by kernel_rfl) (by kernel_rfl) ?hq163 (Or.inl ⟨?hw163, ?hy163⟩) (by assumption) ?rs163
        case hi163 => (simp only [Hg]; rfl)
        case hq163 => exact fun _ _ _ h => h
        case hw163 => rfl
        case hy163 => (intro w hSw; (try dsimp only at hSw); go_simp <;> with_reducible rfl)
        simp only [Hp]
        refine wpAnyH_take (i := 12) (oi := ?oi164) (v := ?vv164) ?hi164 (by kernel_rfl) (by kernel_rfl) (by kernel_rfl) ?hq164 (Or.inl ⟨?hw164, ?hy164⟩) (by assumption) ?rs164
        case hi164 => (simp only [Hg]; rfl)
        case hq164 => exact fun _ _ _ h => h
        case hw164 => rfl
        case hy164 => (intro w hSw; (try dsimp only at hSw); go_simp <;> with_reducible rfl)
        simp only [Hp]
        refine wpAnyH_ready (rs := [13]) (by kernel_rfl) (by simp) (AllReadyH.cons (o := ?oi165) ?hi165 (fun K hK => ?rs165) AllReadyH.nil)
        case hi165 => (simp only [Hg]; rfl)
        go_simp
        (go_at_call 49; (with_reducible refine (HF3.out _ TD.out).mono ?_); rintro e w2 ⟨rfl, hb2⟩; have HB2 := Lib.hid hb2; have s3 : w.heap.size < w2.heap.size := Nat.lt_of_lt_of_le s2 hb2.size; have T2 := Lib.hid (TD.out.grow hb2))
        refine hK.out _ _ ?hs165 (fun hHeld => ?rt165)
        case hs165 => exact ⟨(hb2.cell (p := ⟨w.heap.size, 3, none⟩) s2).trans c3, (hb2.cell (p := ⟨w.heap.size, 5, none⟩) s2).trans c5, (hb2.cell (p := ⟨w.heap.size, 6, none⟩) s2).trans c6, (hb2.cell (p := ⟨w.heap.size, 7, none⟩) s2).trans c7⟩
        clear hK K
        try simp only [Hp]
        refine wpAnyH_take (i := 14) (oi := ?oi166) (v := ?vv166) ?hi166 (by kernel_rfl) (by kernel_rfl) (by kernel_rfl) ?hq166 (Or.inl ⟨?hw166, ?hy166⟩) (by assumption) ?rs166
        case hi166 => (simp only [Hg]; rfl)
        case hq166 => exact fun _ _ _ h => h
        case hw166 => rfl
        case hy166 => (intro w hSw; (try dsimp only at hSw); go_simp <;> with_reducible rfl)
        simp only [Hp]
        refine wpAnyH_take (i := 15) (oi := ?oi167) (v := ?vv167) ?hi167 (by kernel_rfl) (by kernel_rfl) (by kernel_rfl) ?hq167 (Or.inl ⟨?hw167, ?hy167⟩) (by assumption) ?rs167
        case hi167 => (simp only [Hg]; rfl)
        case hq167 => exact fun _ _ _ h => h
        case hw167 => rfl
        case hy167 => (intro w hSw; (try dsimp only at hSw); go_simp <;> with_reducible rfl)
        simp only [Hp]
        refine wpAnyH_take (i := 16) (oi := ?oi168) (v := ?vv168) ?hi168 (by kernel_rfl) (by kernel_rfl) (by kernel_rfl) ?hq168 (Or.inl ⟨?hw168, ?hy168⟩) (by assumption) ?rs168
        case hi168 => (simp only [Hg]; rfl)
        case hq168 => exact fun _ _ _ h => h
        case hw168 => rfl
        case hy168 => (intro w hSw; (try dsimp only at hSw); go_simp <;> with_reducible rfl)
        simp only [Hp]
        refine wpAnyH_take (i := 17) (oi := ?oi169) (v := ?vv169) ?hi169 (by kernel_rfl) (by kernel_rfl) (by kernel_rfl) ?hq169 (Or.inl ⟨?hw169, ?hy169⟩) (by assumption) ?rs169
        case hi169 => (simp only [Hg]; rfl)
        case hq169 => exact fun _ _ _ h => h
        case hw169 => rfl
        case hy169 => (intro w hSw; (try dsimp only at hSw); go_simp <;> with_reducible rfl)
        simp only [Hp]
        refine wpAnyH_take (i := 18) (oi := ?oi170) (v := undef) ?hi170 (by kernel_rfl) (by kernel_rfl) (by kernel_rfl) ?hq170 (Or.inr ⟨?hw170, rfl⟩) (by assumption) ?rs170
        case hi170 => (simp only [Hg]; rfl)
        case hq170 => exact fun _ _ _ h => h
        case hw170 => rfl
        simp only [Hp]
        refine wpAnyH_take (i := 19) (oi := ?oi171) (v := undef) ?hi171 (by kernel_rfl) (by kernel_rfl) (by kernel_rfl) ?hq171 (Or.inr ⟨?hw171, rfl⟩) (by assumption) ?rs171
        case hi171 => (simp only [Hg]; rfl)
        case hq171 => exact fun _ _ _ h => h
        case hw171 => rfl
        simp only [Hp]
        refine wpAnyH_take (i := 20) (oi := ?oi172) (v := undef) ?hi172 (by kernel_rfl) (by kernel_rfl) (by kernel_rfl) ?hq172 (Or.inr ⟨?hw172, rfl⟩) (by assumption) ?rs172
        case hi172 => (simp only [Hg]; rfl)
        case hq172 => exact fun _ _ _ h => h
        case hw172 => rfl
        simp only [Hp]
        refine wpAnyH_take (i := 21) (oi := ?oi173) (v := undef) ?hi173 (by kernel_rfl) (by kernel_rfl) (by kernel_rfl) ?hq173 (Or.inr ⟨?hw173, rfl⟩) (by assumption) ?rs173
        case hi173 => (simp only [Hg]; rfl)
        case hq173 => exact fun _ _ _ h => h
        case hw173 => rfl
        simp only [Hp]
        refine wpAnyH_take (i := 22) (oi := ?oi174) (v := undef) ?hi174 (by kernel_rfl) (by kernel_rfl) (by kernel_rfl) ?hq174 (Or.inr ⟨?hw174, rfl⟩) (by assumption) ?rs174
        case hi174 => (simp only [Hg]; rfl)
        case hq174 => exact fun _ _ _ h => h
        case hw174 => rfl
        simp only [Hp]
        refine wpAnyH_take (i := 23) (oi := ?oi175) (v := undef) ?hi175 (by kernel_rfl) (by kernel_rfl) (by kernel_rfl) ?hq175 (Or.inr ⟨?hw175, rfl⟩) (by assumption) ?rs175
        case hi175 => (simp only [Hg]; rfl)
        case hq175 => exact fun _ _ _ h => h
        case hw175 => rfl
        simp only [Hp]
        refine wpAnyH_ready (rs := [24]) (by kernel_rfl) (by simp) (AllReadyH.cons (o := ?oi176) ?hi176 (fun K hK => ?rs176) AllReadyH.nil)
        case hi176 => (simp only [Hg]; rfl)
        go_simp
        refine hK.out _ _ ?hs176 (fun hHeld => ?rt176)
        case hs176 => assumption
        clear hK K
        try simp only [Hp]
        refine wpAnyH_take (i := 25) (oi := ?oi177) (v := undef) ?hi177 (by kernel_rfl) (by kernel_rfl) (by kernel_rfl) ?hq177 (Or.inr ⟨?hw177, rfl⟩) (by assumption) ?rs177
        case hi177 => (simp only [Hg]; rfl)
        case hq177 => exact fun _ _ _ h => h
        case hw177 => rfl
        simp only [Hp]
        refine wpAnyH_take (i := 26) (oi := ?oi178) (v := undef) ?hi178 (by kernel_rfl) (by kernel_rfl) (by kernel_rfl) ?hq178 (Or.inr ⟨?hw178, rfl⟩) (by assumption) ?rs178
        case hi178 => (simp only [Hg]; rfl)
        case hq178 => exact fun _ _ _ h => h
        case hw178 => rfl
        simp only [Hp]
        refine wpAnyH_take (i := 27) (oi := ?oi179) (v := ?vv179) ?hi179 (by kernel_rfl) (by kernel_rfl) (by kernel_rfl) ?hq179 (Or.inl ⟨?hw179, ?hy179⟩) (by assumption) ?rs179
        case hi179 => (simp only [Hg]; rfl)
        case hq179 => exact fun _ _ _ h => h
        case hw179 => rfl
        case hy179 => (intro w hSw; (try dsimp only at hSw); go_simp <;> with_reducible rfl)
        simp only [Hp]
        refine wpAnyH_take (i := 28) (oi := ?oi180) (v := ?vv180) ?hi180 (by kernel_rfl) (by kernel_rfl) (by kernel_rfl) ?hq180 (Or.inl ⟨?hw180, ?hy180⟩) (by assumption) ?rs180
        case hi180 => (simp only [Hg]; rfl)
        case hq180 => exact fun _ _ _ h => h
        case hw180 => rfl
        case hy180 => (intro w hSw; (try dsimp only at hSw); go_simp <;> with_reducible rfl)
        simp only [Hp]
        refine wpAnyH_done (by kernel_rfl) ?_ _
        go_wp2_with fail
        go_ret
        exact ⟨rfl, HB.out.drew.trans (HB2.out.mono (Nat.le_of_lt s2))⟩
      · have ef3 : ((d : Int) == (f3 : Int)) = false := by rw [beq_eq_false_iff_ne]; omega
        rw [show decide (d = f3) = false from decide_eq_false hf3]
        clear hf3
        by_cases hf5 : f = f5
        · have ef5 : ((f : Int) == (f5 : Int)) = true := by rw [beq_iff_eq]; omega
          rw [show decide (f = f5) = true from decide_eq_true hf5]
          clear hf5
          go_enter Tryz.func58, Tryz.ntmps58
          go_wp2_with fail
          refine wp_region_held_drew (S := fun W => W.cell? ⟨w.heap.size, 3, none⟩ = some (.int .u64 d) ∧ W.cell? ⟨w.heap.size, 5, none⟩ = some (.int .u64 f) ∧ W.cell? ⟨w.heap.size, 6, none⟩ = some (.bool false) ∧ W.cell? ⟨w.heap.size, 7, none⟩ = some (.bool false)) (by kernel_rfl) ?hs181 (fun hHeld => ?rs181)
          case hs181 => exact ⟨c3, c5, c6, c7⟩
          refine wpAnyH_take (i := 0) (oi := ?oi182) (v := ?vv182) ?hi182 (by kernel_rfl) (by kernel_rfl) (by kernel_rfl) ?hq182 (Or.inl ⟨?hw182, ?hy182⟩) (by assumption) ?rs182
          case hi182 => (simp only [Hg]; rfl)
          case hq182 => exact fun _ _ _ h => h
          case hw182 => rfl
          case hy182 => (intro w hSw; (try dsimp only at hSw); go_simp <;> with_reducible rfl)
          simp only [Hp]
          refine wpAnyH_take (i := 1) (oi := ?oi183) (v := ?vv183) ?hi183 (by kernel_rfl) (by kernel_rfl) (by kernel_rfl) ?hq183 (Or.inl ⟨?hw183, ?hy183⟩) (by assumption) ?rs183
          case hi183 => (simp only [Hg]; rfl)
          case hq183 => exact fun _ _ _ h => h
          case hw183 => rfl
          case hy183 => (intro w hSw; (try dsimp only at hSw); go_simp <;> with_reducible rfl)
          simp only [Hp]
          refine wpAnyH_take (i := 2) (oi := ?oi184) (v := ?vv184) ?hi184 (by kernel_rfl) (by kernel_rfl) (by kernel_rfl) ?hq184 (Or.inl ⟨?hw184, ?hy184⟩) (by assumption) ?rs184
          case hi184 => (simp only [Hg]; rfl)
          case hq184 => exact fun _ _ _ h => h
          case hw184 => rfl
          case hy184 => (intro w hSw; (try dsimp only at hSw); go_simp <;> with_reducible rfl)
          simp only [Hp]
          refine wpAnyH_take (i := 3) (oi := ?oi185) (v := undef) ?hi185 (by kernel_rfl) (by kernel_rfl) (by kernel_rfl) ?hq185 (Or.inr ⟨?hw185, rfl⟩) (by assumption) ?rs185
          case hi185 => (simp only [Hg]; rfl)
          case hq185 => exact fun _ _ _ h => h
          case hw185 => rfl
          simp only [Hp]
          refine wpAnyH_take (i := 4) (oi := ?oi186) (v := undef) ?hi186 (by kernel_rfl) (by kernel_rfl) (by kernel_rfl) ?hq186 (Or.inr ⟨?hw186, rfl⟩) (by assumption) ?rs186
          case hi186 => (simp only [Hg]; rfl)
          case hq186 => exact fun _ _ _ h => h
          case hw186 => rfl
          simp only [Hp]
          refine wpAnyH_take (i := 5) (oi := ?oi187) (v := ?vv187) ?hi187 (by kernel_rfl) (by kernel_rfl) (by kernel_rfl) ?hq187 (Or.inl ⟨?hw187, ?hy187⟩) (by assumption) ?rs187
          case hi187 => (simp only [Hg]; rfl)
          case hq187 => exact fun _ _ _ h => h
          case hw187 => rfl
          case hy187 => (intro w hSw; (try dsimp only at hSw); go_simp <;> with_reducible rfl)
          simp only [Hp]
          refine wpAnyH_take (i := 6) (oi := ?oi188) (v := ?vv188) ?hi188 (by kernel_rfl) (by kernel_rfl) (by kernel_rfl) ?hq188 (Or.inl ⟨?hw188, ?hy188⟩) (by assumption) ?rs188
          case hi188 => (simp only [Hg]; rfl)
          case hq188 => exact fun _ _ _ h => h
          case hw188 => rfl
          case hy188 => (intro w hSw; (try dsimp only at hSw); go_simp <;> with_reducible rfl)
          simp only [Hp]
          refine wpAnyH_take (i := 7) (oi := ?oi189) (v := ?vv189) ?hi189 (by kernel_rfl) (by kernel_rfl) (by kernel_rfl) ?hq189 (Or.inl ⟨?hw189, ?hy189⟩) (by assumption) ?rs189
          case hi189 => (simp only [Hg]; rfl)
          case hq189 => exact fun _ _ _ h => h
          case hw189 => rfl
          case hy189 => (intro w hSw; (try dsimp only at hSw); go_simp <;> with_reducible rfl)
          simp only [Hp]
          refine wpAnyH_take (i := 8) (oi := ?oi190) (v := ?vv190) ?hi190 (by kernel_rfl) (by kernel_rfl) (by kernel_rfl) ?hq190 (Or.inl ⟨?hw190, ?hy190⟩) (by assumption) ?rs190
          case hi190 => (simp only [Hg]; rfl)
          case hq190 => exact fun _ _ _ h => h
          case hw190 => rfl
          case hy190 => (intro w hSw; (try dsimp only at hSw); go_simp <;> with_reducible rfl)
          simp only [Hp]
          refine wpAnyH_take (i := 9) (oi := ?oi191) (v := ?vv191) ?hi191 (by kernel_rfl) (by kernel_rfl) (by kernel_rfl) ?hq191 (Or.inl ⟨?hw191, ?hy191⟩) (by assumption) ?rs191
          case hi191 => (simp only [Hg]; rfl)
          case hq191 => exact fun _ _ _ h => h
          case hw191 => rfl
          case hy191 => (intro w hSw; (try dsimp only at hSw); go_simp <;> with_reducible rfl)
          simp only [Hp]
          refine wpAnyH_take (i := 10) (oi := ?oi192) (v := ?vv192) ?hi192 (by kernel_rfl) (by kernel_rfl) (by kernel_rfl) ?hq192 (Or.inl ⟨?hw192, ?hy192⟩) (by assumption) ?rs192
          case hi192 => (simp only [Hg]; rfl)
          case hq192 => exact fun _ _ _ h => h
          case hw192 => rfl
          case hy192 => (intro w hSw; (try dsimp only at hSw); go_simp <;> with_reducible rfl)
          simp only [Hp]
          refine wpAnyH_take (i := 11) (oi := ?oi193) (v := ?vv193) ?hi193 (by kernel_rfl) (by kernel_rfl) (by kernel_rfl) ?hq193 (Or.inl ⟨?hw193, ?hy193⟩) (by assumption) ?rs193
          case hi193 => (simp only [Hg]; rfl)
          case hq193 => exact fun _ _ _ h => h
          case hw193 => rfl
          case hy193 => (intro w hSw; (try dsimp only at hSw); go_simp <;> with_reducible rfl)
          simp only [Hp]
          refine wpAnyH_take (i := 12) (oi := ?oi194) (v := ?vv194) ?hi194 (by kernel_rfl) (by kernel_rfl) (by kernel_rfl) ?hq194 (Or.inl ⟨?hw194, ?hy194⟩) (by assumption) ?rs194
          case hi194 => (simp only [Hg]; rfl)
          case hq194 => exact fun _ _ _ h => h
          case hw194 => rfl
          case hy194 => (intro w hSw; (try dsimp only at hSw); go_simp <;> with_reducible rfl)
          simp only [Hp]
          refine wpAnyH_ready (rs := [13]) (by kernel_rfl) (by simp) (AllReadyH.cons (o := ?oi195) ?hi195 (fun K hK => ?rs195) AllReadyH.nil)
          case hi195 => (simp only [Hg]; rfl)
          go_simp
          (go_at_call 49; (with_reducible refine (HF3.out _ TD.out).mono ?_); rintro e w2 ⟨rfl, hb2⟩; have HB2 := Lib.hid hb2; have s3 : w.heap.size < w2.heap.size := Nat.lt_of_lt_of_le s2 hb2.size; have T2 := Lib.hid (TD.out.grow hb2))
          refine hK.out _ _ ?hs195 (fun hHeld => ?rt195)
          case hs195 => exact ⟨(hb2.cell (p := ⟨w.heap.size, 3, none⟩) s2).trans c3, (hb2.cell (p := ⟨w.heap.size, 5, none⟩) s2).trans c5, (hb2.cell (p := ⟨w.heap.size, 6, none⟩) s2).trans c6, (hb2.cell (p := ⟨w.heap.size, 7, none⟩) s2).trans c7⟩
          clear hK K
          try simp only [Hp]
          refine wpAnyH_take (i := 14) (oi := ?oi196) (v := ?vv196) ?hi196 (by kernel_rfl) (by kernel_rfl) (by kernel_rfl) ?hq196 (Or.inl ⟨?hw196, ?hy196⟩) (by assumption) ?rs196
          case hi196 => (simp only [Hg]; rfl)
          case hq196 => exact fun _ _ _ h => h
          case hw196 => rfl
          case hy196 => (intro w hSw; (try dsimp only at hSw); go_simp <;> with_reducible rfl)
          simp only [Hp]
          refine wpAnyH_take (i := 15) (oi := ?oi197) (v := ?vv197) ?hi197 (by kernel_rfl) (by kernel_rfl) (by kernel_rfl) ?hq197 (Or.inl ⟨?hw197, ?hy197⟩) (by assumption) ?rs197
          case hi197 => (simp only [Hg]; rfl)
          case hq197 => exact fun _ _ _ h => h
          case hw197 => rfl
          case hy197 => (intro w hSw; (try dsimp only at hSw); go_simp <;> with_reducible rfl)
          simp only [Hp]
          refine wpAnyH_take (i := 16) (oi := ?oi198) (v := ?vv198) ?hi198 (by kernel_rfl) (by kernel_rfl) (by kernel_rfl) ?hq198 (Or.inl ⟨?hw198, ?hy198⟩) (by assumption) ?rs198
          case hi198 => (simp only [Hg]; rfl)
          case hq198 => exact fun _ _ _ h => h
          case hw198 => rfl
          case hy198 => (intro w hSw; (try dsimp only at hSw); go_simp <;> with_reducible rfl)
          simp only [Hp]
          refine wpAnyH_take (i := 17) (oi := ?oi199) (v := ?vv199) ?hi199 (by kernel_rfl) (by kernel_rfl) (by kernel_rfl) ?hq199 (Or.inl ⟨?hw199, ?hy199⟩) (by assumption) ?rs199
          case hi199 => (simp only [Hg]; rfl)
          case hq199 => exact fun _ _ _ h => h
          case hw199 => rfl
          case hy199 => (intro w hSw; (try dsimp only at hSw); go_simp <;> with_reducible rfl)
          simp only [Hp]
          refine wpAnyH_take (i := 18) (oi := ?oi200) (v := ?vv200) ?hi200 (by kernel_rfl) (by kernel_rfl) (by kernel_rfl) ?hq200 (Or.inl ⟨?hw200, ?hy200⟩) (by assumption) ?rs200
          case hi200 => (simp only [Hg]; rfl)
          case hq200 => exact fun _ _ _ h => h
          case hw200 => rfl
          case hy200 => (intro w hSw; (try dsimp only at hSw); go_simp <;> with_reducible rfl)
          simp only [Hp]
          refine wpAnyH_take (i := 19) (oi := ?oi201) (v := ?vv201) ?hi201 (by kernel_rfl) (by kernel_rfl) (by kernel_rfl) ?hq201 (Or.inl ⟨?hw201, ?hy201⟩) (by assumption) ?rs201
          case hi201 => (simp only [Hg]; rfl)
          case hq201 => exact fun _ _ _ h => h
          case hw201 => rfl
          case hy201 => (intro w hSw; (try dsimp only at hSw); go_simp <;> with_reducible rfl)
          simp only [Hp]
          refine wpAnyH_take (i := 20) (oi := ?oi202) (v := ?vv202) ?hi202 (by kernel_rfl) (by kernel_rfl) (by kernel_rfl) ?hq202 (Or.inl ⟨?hw202, ?hy202⟩) (by assumption) ?rs202
          case hi202 => (simp only [Hg]; rfl)
          case hq202 => exact fun _ _ _ h => h
          case hw202 => rfl
          case hy202 => (intro w hSw; (try dsimp only at hSw); go_simp <;> with_reducible rfl)
          simp only [Hp]
          refine wpAnyH_take (i := 21) (oi := ?oi203) (v := ?vv203) ?hi203 (by kernel_rfl) (by kernel_rfl) (by kernel_rfl) ?hq203 (Or.inl ⟨?hw203, ?hy203⟩) (by assumption) ?rs203
          case hi203 => (simp only [Hg]; rfl)
          case hq203 => exact fun _ _ _ h => h
          case hw203 => rfl
          case hy203 => (intro w hSw; (try dsimp only at hSw); go_simp <;> with_reducible rfl)
          simp only [Hp]
          refine wpAnyH_take (i := 22) (oi := ?oi204) (v := ?vv204) ?hi204 (by kernel_rfl) (by kernel_rfl) (by kernel_rfl) ?hq204 (Or.inl ⟨?hw204, ?hy204⟩) (by assumption) ?rs204
          case hi204 => (simp only [Hg]; rfl)
          case hq204 => exact fun _ _ _ h => h
          case hw204 => rfl
          case hy204 => (intro w hSw; (try dsimp only at hSw); go_simp <;> with_reducible rfl)
          simp only [Hp]
          refine wpAnyH_take (i := 23) (oi := ?oi205) (v := ?vv205) ?hi205 (by kernel_rfl) (by kernel_rfl) (by kernel_rfl) ?hq205 (Or.inl ⟨?hw205, ?hy205⟩) (by assumption) ?rs205
          case hi205 => (simp only [Hg]; rfl)
          case hq205 => exact fun _ _ _ h => h
          case hw205 => rfl
          case hy205 => (intro w hSw; (try dsimp only at hSw); go_simp <;> with_reducible rfl)
          simp only [Hp]
          refine wpAnyH_ready (rs := [24]) (by kernel_rfl) (by simp) (AllReadyH.cons (o := ?oi206) ?hi206 (fun K hK => ?rs206) AllReadyH.nil)
          case hi206 => (simp only [Hg]; rfl)
          go_simp
          (go_at_call 49; (with_reducible refine (HF5.out _ T2.out).mono ?_); rintro e w3 ⟨rfl, hb3⟩; have HB3 := Lib.hid hb3)
          refine hK.out _ _ ?hs206 (fun hHeld => ?rt206)
          case hs206 => exact ⟨(hb3.cell (p := ⟨w.heap.size, 3, none⟩) s3).trans ((hb2.cell (p := ⟨w.heap.size, 3, none⟩) s2).trans c3), (hb3.cell (p := ⟨w.heap.size, 5, none⟩) s3).trans ((hb2.cell (p := ⟨w.heap.size, 5, none⟩) s2).trans c5), (hb3.cell (p := ⟨w.heap.size, 6, none⟩) s3).trans ((hb2.cell (p := ⟨w.heap.size, 6, none⟩) s2).trans c6), (hb3.cell (p := ⟨w.heap.size, 7, none⟩) s3).trans ((hb2.cell (p := ⟨w.heap.size, 7, none⟩) s2).trans c7)⟩
          clear hK K
          try simp only [Hp]
          refine wpAnyH_take (i := 25) (oi := ?oi207) (v := ?vv207) ?hi207 (by kernel_rfl) (by kernel_rfl) (by kernel_rfl) ?hq207 (Or.inl ⟨?hw207, ?hy207⟩) (by assumption) ?rs207
          case hi207 => (simp only [Hg]; rfl)
          case hq207 => exact fun _ _ _ h => h
          case hw207 => rfl
          case hy207 => (intro w hSw; (try dsimp only at hSw); go_simp <;> with_reducible rfl)
          simp only [Hp]
          refine wpAnyH_take (i := 26) (oi := ?oi208) (v := ?vv208) ?hi208 (by kernel_rfl) (by kernel_rfl) (by kernel_rfl) ?hq208 (Or.inl ⟨?hw208, ?hy208⟩) (by assumption) ?rs208
          case hi208 => (simp only [Hg]; rfl)
          case hq208 => exact fun _ _ _ h => h
          case hw208 => rfl
          case hy208 => (intro w hSw; (try dsimp only at hSw); go_simp <;> with_reducible rfl)
          simp only [Hp]
          refine wpAnyH_take (i := 27) (oi := ?oi209) (v := ?vv209) ?hi209 (by kernel_rfl) (by kernel_rfl) (by kernel_rfl) ?hq209 (Or.inl ⟨?hw209, ?hy209⟩) (by assumption) ?rs209
          case hi209 => (simp only [Hg]; rfl)
          case hq209 => exact fun _ _ _ h => h
          case hw209 => rfl
          case hy209 => (intro w hSw; (try dsimp only at hSw); go_simp <;> with_reducible rfl)
          simp only [Hp]
          refine wpAnyH_take (i := 28) (oi := ?oi210) (v := ?vv210) ?hi210 (by kernel_rfl) (by kernel_rfl) (by kernel_rfl) ?hq210 (Or.inl ⟨?hw210, ?hy210⟩) (by assumption) ?rs210
          case hi210 => (simp only [Hg]; rfl)
          case hq210 => exact fun _ _ _ h => h
          case hw210 => rfl
          case hy210 => (intro w hSw; (try dsimp only at hSw); go_simp <;> with_reducible rfl)
          simp only [Hp]
          refine wpAnyH_done (by kernel_rfl) ?_ _
          go_wp2_with fail
          go_ret
          exact ⟨rfl, HB.out.drew.trans ((HB2.out.trans (HB3.out.mono HB2.out.size)).mono (Nat.le_of_lt s2))⟩
        · have ef5 : ((f : Int) == (f5 : Int)) = false := by rw [beq_eq_false_iff_ne]; omega
          rw [show decide (f = f5) = false from decide_eq_false hf5]
          clear hf5
          go_enter Tryz.func58, Tryz.ntmps58
          go_wp2_with fail
          refine wp_region_held_drew (S := fun W => W.cell? ⟨w.heap.size, 3, none⟩ = some (.int .u64 d) ∧ W.cell? ⟨w.heap.size, 5, none⟩ = some (.int .u64 f) ∧ W.cell? ⟨w.heap.size, 6, none⟩ = some (.bool false) ∧ W.cell? ⟨w.heap.size, 7, none⟩ = some (.bool false)) (by kernel_rfl) ?hs211 (fun hHeld => ?rs211)
          case hs211 => exact ⟨c3, c5, c6, c7⟩
          refine wpAnyH_take (i := 0) (oi := ?oi212) (v := ?vv212) ?hi212 (by kernel_rfl) (by kernel_rfl) (by kernel_rfl) ?hq212 (Or.inl ⟨?hw212, ?hy212⟩) (by assumption) ?rs212
          case hi212 => (simp only [Hg]; rfl)
          case hq212 => exact fun _ _ _ h => h
          case hw212 => rfl
          case hy212 => (intro w hSw; (try dsimp only at hSw); go_simp <;> with_reducible rfl)
          simp only [Hp]
          refine wpAnyH_take (i := 1) (oi := ?oi213) (v := ?vv213) ?hi213 (by kernel_rfl) (by kernel_rfl) (by kernel_rfl) ?hq213 (Or.inl ⟨?hw213, ?hy213⟩) (by assumption) ?rs213
          case hi213 => (simp only [Hg]; rfl)
          case hq213 => exact fun _ _ _ h => h
          case hw213 => rfl
          case hy213 => (intro w hSw; (try dsimp only at hSw); go_simp <;> with_reducible rfl)
          simp only [Hp]
          refine wpAnyH_take (i := 2) (oi := ?oi214) (v := ?vv214) ?hi214 (by kernel_rfl) (by kernel_rfl) (by kernel_rfl) ?hq214 (Or.inl ⟨?hw214, ?hy214⟩) (by assumption) ?rs214
          case hi214 => (simp only [Hg]; rfl)
          case hq214 => exact fun _ _ _ h => h
          case hw214 => rfl
          case hy214 => (intro w hSw; (try dsimp only at hSw); go_simp <;> with_reducible rfl)
          simp only [Hp]
          refine wpAnyH_take (i := 3) (oi := ?oi215) (v := undef) ?hi215 (by kernel_rfl) (by kernel_rfl) (by kernel_rfl) ?hq215 (Or.inr ⟨?hw215, rfl⟩) (by assumption) ?rs215
          case hi215 => (simp only [Hg]; rfl)
          case hq215 => exact fun _ _ _ h => h
          case hw215 => rfl
          simp only [Hp]
          refine wpAnyH_take (i := 4) (oi := ?oi216) (v := undef) ?hi216 (by kernel_rfl) (by kernel_rfl) (by kernel_rfl) ?hq216 (Or.inr ⟨?hw216, rfl⟩) (by assumption) ?rs216
          case hi216 => (simp only [Hg]; rfl)
          case hq216 => exact fun _ _ _ h => h
          case hw216 => rfl
          simp only [Hp]
          refine wpAnyH_take (i := 5) (oi := ?oi217) (v := ?vv217) ?hi217 (by kernel_rfl) (by kernel_rfl) (by kernel_rfl) ?hq217 (Or.inl ⟨?hw217, ?hy217⟩) (by assumption) ?rs217
          case hi217 => (simp only [Hg]; rfl)
          case hq217 => exact fun _ _ _ h => h
          case hw217 => rfl
          case hy217 => (intro w hSw; (try dsimp only at hSw); go_simp <;> with_reducible rfl)
          simp only [Hp]
          refine wpAnyH_take (i := 6) (oi := ?oi218) (v := ?vv218) ?hi218 (by kernel_rfl) (by kernel_rfl) (by kernel_rfl) ?hq218 (Or.inl ⟨?hw218, ?hy218⟩) (by assumption) ?rs218
          case hi218 => (simp only [Hg]; rfl)
          case hq218 => exact fun _ _ _ h => h
          case hw218 => rfl
          case hy218 => (intro w hSw; (try dsimp only at hSw); go_simp <;> with_reducible rfl)
          simp only [Hp]
          refine wpAnyH_take (i := 7) (oi := ?oi219) (v := ?vv219) ?hi219 (by kernel_rfl) (by kernel_rfl) (by kernel_rfl) ?hq219 (Or.inl ⟨?hw219, ?hy219⟩) (by assumption) ?rs219
          case hi219 => (simp only [Hg]; rfl)
          case hq219 => exact fun _ _ _ h => h
          case hw219 => rfl
          case hy219 => (intro w hSw; (try dsimp only at hSw); go_simp <;> with_reducible rfl)
          simp only [Hp]
          refine wpAnyH_take (i := 8) (oi := ?oi220) (v := ?vv220) ?hi220 (by kernel_rfl) (by kernel_rfl) (by kernel_rfl) ?hq220 (Or.inl ⟨?hw220, ?hy220⟩) (by assumption) ?rs220
          case hi220 => (simp only [Hg]; rfl)
          case hq220 => exact fun _ _ _ h => h
          case hw220 => rfl
          case hy220 => (intro w hSw; (try dsimp only at hSw); go_simp <;> with_reducible rfl)
          simp only [Hp]
          refine wpAnyH_take (i := 9) (oi := ?oi221) (v := ?vv221) ?hi221 (by kernel_rfl) (by kernel_rfl) (by kernel_rfl) ?hq221 (Or.inl ⟨?hw221, ?hy221⟩) (by assumption) ?rs221
          case hi221 => (simp only [Hg]; rfl)
          case hq221 => exact fun _ _ _ h => h
          case hw221 => rfl
          case hy221 => (intro w hSw; (try dsimp only at hSw); go_simp <;> with_reducible rfl)
          simp only [Hp]
          refine wpAnyH_take (i := 10) (oi := ?oi222) (v := ?vv222) ?hi222 (by kernel_rfl) (by kernel_rfl) (by kernel_rfl) ?hq222 (Or.inl ⟨?hw222, ?hy222⟩) (by assumption) ?rs222
          case hi222 => (simp only [Hg]; rfl)
          case hq222 => exact fun _ _ _ h => h
          case hw222 => rfl
          case hy222 => (intro w hSw; (try dsimp only at hSw); go_simp <;> with_reducible rfl)
          simp only [Hp]
          refine wpAnyH_take (i := 11) (oi := ?oi223) (v := ?vv223) ?hi223 (by kernel_rfl) (by kernel_rfl) (by kernel_rfl) ?hq223 (Or.inl ⟨?hw223, ?hy223⟩) (by assumption) ?rs223
          case hi223 => (simp only [Hg]; rfl)
          case hq223 => exact fun _ _ _ h => h
          case hw223 => rfl
          case hy223 => (intro w hSw; (try dsimp only at hSw); go_simp <;> with_reducible rfl)
          simp only [Hp]
          refine wpAnyH_take (i := 12) (oi := ?oi224) (v := ?vv224) ?hi224 (by kernel_rfl) (by kernel_rfl) (by kernel_rfl) ?hq224 (Or.inl ⟨?hw224, ?hy224⟩) (by assumption) ?rs224
          case hi224 => (simp only [Hg]; rfl)
          case hq224 => exact fun _ _ _ h => h
          case hw224 => rfl
          case hy224 => (intro w hSw; (try dsimp only at hSw); go_simp <;> with_reducible rfl)
          simp only [Hp]
          refine wpAnyH_ready (rs := [13]) (by kernel_rfl) (by simp) (AllReadyH.cons (o := ?oi225) ?hi225 (fun K hK => ?rs225) AllReadyH.nil)
          case hi225 => (simp only [Hg]; rfl)
          go_simp
          (go_at_call 49; (with_reducible refine (HF3.out _ TD.out).mono ?_); rintro e w2 ⟨rfl, hb2⟩; have HB2 := Lib.hid hb2; have s3 : w.heap.size < w2.heap.size := Nat.lt_of_lt_of_le s2 hb2.size; have T2 := Lib.hid (TD.out.grow hb2))
          refine hK.out _ _ ?hs225 (fun hHeld => ?rt225)
          case hs225 => exact ⟨(hb2.cell (p := ⟨w.heap.size, 3, none⟩) s2).trans c3, (hb2.cell (p := ⟨w.heap.size, 5, none⟩) s2).trans c5, (hb2.cell (p := ⟨w.heap.size, 6, none⟩) s2).trans c6, (hb2.cell (p := ⟨w.heap.size, 7, none⟩) s2).trans c7⟩
          clear hK K
          try simp only [Hp]
          refine wpAnyH_take (i := 14) (oi := ?oi226) (v := ?vv226) ?hi226 (by kernel_rfl) (by kernel_rfl) (by kernel_rfl) ?hq226 (Or.inl ⟨?hw226, ?hy226⟩) (by assumption) ?rs226
          case hi226 => (simp only [Hg]; rfl)
          case hq226 => exact fun _ _ _ h => h
          case hw226 => rfl
          case hy226 => (intro w hSw; (try dsimp only at hSw); go_simp <;> with_reducible rfl)
          simp only [Hp]
          refine wpAnyH_take (i := 15) (oi := ?oi227) (v := ?vv227) ?hi227 (by kernel_rfl) (by kernel_rfl) (by kernel_rfl) ?hq227 (Or.inl ⟨?hw227, ?hy227⟩) (by assumption) ?rs227
          case hi227 => (simp only [Hg]; rfl)
          case hq227 => exact fun _ _ _ h => h
          case hw227 => rfl
          case hy227 => (intro w hSw; (try dsimp only at hSw); go_simp <;> with_reducible rfl)
          simp only [Hp]
          refine wpAnyH_take (i := 16) (oi := ?oi228) (v := ?vv228) ?hi228 (by kernel_rfl) (by kernel_rfl) (by kernel_rfl) ?hq228 (Or.inl ⟨?hw228, ?hy228⟩) (by assumption) ?rs228
          case hi228 => (simp only [Hg]; rfl)
          case hq228 => exact fun _ _ _ h => h
          case hw228 => rfl
          case hy228 => (intro w hSw; (try dsimp only at hSw); go_simp <;> with_reducible rfl)
          simp only [Hp]
          refine wpAnyH_take (i := 17) (oi := ?oi229) (v := ?vv229) ?hi229 (by kernel_rfl) (by kernel_rfl) (by kernel_rfl) ?hq229 (Or.inl ⟨?hw229, ?hy229⟩) (by assumption) ?rs229
          case hi229 => (simp only [Hg]; rfl)
          case hq229 => exact fun _ _ _ h => h
          case hw229 => rfl
          case hy229 => (intro w hSw; (try dsimp only at hSw); go_simp <;> with_reducible rfl)
          simp only [Hp]
          refine wpAnyH_take (i := 18) (oi := ?oi230) (v := ?vv230) ?hi230 (by kernel_rfl) (by kernel_rfl) (by kernel_rfl) ?hq230 (Or.inl ⟨?hw230, ?hy230⟩) (by assumption) ?rs230
          case hi230 => (simp only [Hg]; rfl)
          case hq230 => exact fun _ _ _ h => h
          case hw230 => rfl
          case hy230 => (intro w hSw; (try dsimp only at hSw); go_simp <;> with_reducible rfl)
          simp only [Hp]
          refine wpAnyH_take (i := 19) (oi := ?oi231) (v := ?vv231) ?hi231 (by kernel_rfl) (by kernel_rfl) (by kernel_rfl) ?hq231 (Or.inl ⟨?hw231, ?hy231⟩) (by assumption) ?rs231
          case hi231 => (simp only [Hg]; rfl)
          case hq231 => exact fun _ _ _ h => h
          case hw231 => rfl
          case hy231 => (intro w hSw; (try dsimp only at hSw); go_simp <;> with_reducible rfl)
          simp only [Hp]
          refine wpAnyH_take (i := 20) (oi := ?oi232) (v := ?vv232) ?hi232 (by kernel_rfl) (by kernel_rfl) (by kernel_rfl) ?hq232 (Or.inl ⟨?hw232, ?hy232⟩) (by assumption) ?rs232
          case hi232 => (simp only [Hg]; rfl)
          case hq232 => exact fun _ _ _ h => h
          case hw232 => rfl
          case hy232 => (intro w hSw; (try dsimp only at hSw); go_simp <;> with_reducible rfl)
          simp only [Hp]
          refine wpAnyH_take (i := 21) (oi := ?oi233) (v := ?vv233) ?hi233 (by kernel_rfl) (by kernel_rfl) (by kernel_rfl) ?hq233 (Or.inl ⟨?hw233, ?hy233⟩) (by assumption) ?rs233
          case hi233 => (simp only [Hg]; rfl)
          case hq233 => exact fun _ _ _ h => h
          case hw233 => rfl
          case hy233 => (intro w hSw; (try dsimp only at hSw); go_simp <;> with_reducible rfl)
          simp only [Hp]
          refine wpAnyH_take (i := 22) (oi := ?oi234) (v := ?vv234) ?hi234 (by kernel_rfl) (by kernel_rfl) (by kernel_rfl) ?hq234 (Or.inl ⟨?hw234, ?hy234⟩) (by assumption) ?rs234
          case hi234 => (simp only [Hg]; rfl)
          case hq234 => exact fun _ _ _ h => h
          case hw234 => rfl
          case hy234 => (intro w hSw; (try dsimp only at hSw); go_simp <;> with_reducible rfl)
          simp only [Hp]
          refine wpAnyH_take (i := 23) (oi := ?oi235) (v := ?vv235) ?hi235 (by kernel_rfl) (by kernel_rfl) (by kernel_rfl) ?hq235 (Or.inl ⟨?hw235, ?hy235⟩) (by assumption) ?rs235
          case hi235 => (simp only [Hg]; rfl)
          case hq235 => exact fun _ _ _ h => h
          case hw235 => rfl
          case hy235 => (intro w hSw; (try dsimp only at hSw); go_simp <;> with_reducible rfl)
          simp only [Hp]
          refine wpAnyH_ready (rs := [24]) (by kernel_rfl) (by simp) (AllReadyH.cons (o := ?oi236) ?hi236 (fun K hK => ?rs236) AllReadyH.nil)
          case hi236 => (simp only [Hg]; rfl)
          go_simp
          (go_at_call 49; (with_reducible refine (HF5.out _ T2.out).mono ?_); rintro e w3 ⟨rfl, hb3⟩; have HB3 := Lib.hid hb3)
          refine hK.out _ _ ?hs236 (fun hHeld => ?rt236)
          case hs236 => exact ⟨(hb3.cell (p := ⟨w.heap.size, 3, none⟩) s3).trans ((hb2.cell (p := ⟨w.heap.size, 3, none⟩) s2).trans c3), (hb3.cell (p := ⟨w.heap.size, 5, none⟩) s3).trans ((hb2.cell (p := ⟨w.heap.size, 5, none⟩) s2).trans c5), (hb3.cell (p := ⟨w.heap.size, 6, none⟩) s3).trans ((hb2.cell (p := ⟨w.heap.size, 6, none⟩) s2).trans c6), (hb3.cell (p := ⟨w.heap.size, 7, none⟩) s3).trans ((hb2.cell (p := ⟨w.heap.size, 7, none⟩) s2).trans c7)⟩
          clear hK K
          try simp only [Hp]
          refine wpAnyH_take (i := 25) (oi := ?oi237) (v := ?vv237) ?hi237 (by kernel_rfl) (by kernel_rfl) (by kernel_rfl) ?hq237 (Or.inl ⟨?hw237, ?hy237⟩) (by assumption) ?rs237
          case hi237 => (simp only [Hg]; rfl)
          case hq237 => exact fun _ _ _ h => h
          case hw237 => rfl
          case hy237 => (intro w hSw; (try dsimp only at hSw); go_simp <;> with_reducible rfl)
          simp only [Hp]
          refine wpAnyH_take (i := 26) (oi := ?oi238) (v := ?vv238) ?hi238 (by kernel_rfl) (by kernel_rfl) (by kernel_rfl) ?hq238 (Or.inl ⟨?hw238, ?hy238⟩) (by assumption) ?rs238
          case hi238 => (simp only [Hg]; rfl)
          case hq238 => exact fun _ _ _ h => h
          case hw238 => rfl
          case hy238 => (intro w hSw; (try dsimp only at hSw); go_simp <;> with_reducible rfl)
          simp only [Hp]
          refine wpAnyH_take (i := 27) (oi := ?oi239) (v := ?vv239) ?hi239 (by kernel_rfl) (by kernel_rfl) (by kernel_rfl) ?hq239 (Or.inl ⟨?hw239, ?hy239⟩) (by assumption) ?rs239
          case hi239 => (simp only [Hg]; rfl)
          case hq239 => exact fun _ _ _ h => h
          case hw239 => rfl
          case hy239 => (intro w hSw; (try dsimp only at hSw); go_simp <;> with_reducible rfl)
          simp only [Hp]
          refine wpAnyH_take (i := 28) (oi := ?oi240) (v := ?vv240) ?hi240 (by kernel_rfl) (by kernel_rfl) (by kernel_rfl) ?hq240 (Or.inl ⟨?hw240, ?hy240⟩) (by assumption) ?rs240
          case hi240 => (simp only [Hg]; rfl)
          case hq240 => exact fun _ _ _ h => h
          case hw240 => rfl
          case hy240 => (intro w hSw; (try dsimp only at hSw); go_simp <;> with_reducible rfl)
          simp only [Hp]
          refine wpAnyH_done (by kernel_rfl) ?_ _
          go_wp2_with fail
          go_ret
          exact ⟨rfl, HB.out.drew.trans ((HB2.out.trans (HB3.out.mono HB2.out.size)).mono (Nat.le_of_lt s2))⟩
end Go.Proofs.YtjnlgaeedcklaaaGreatDoor
