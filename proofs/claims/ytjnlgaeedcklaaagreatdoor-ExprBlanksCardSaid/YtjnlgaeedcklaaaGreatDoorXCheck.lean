/-
  The program's Check of an expression.
-/
import Derived.Test.YtjnlgaeedcklaaaGreatDoorXKinds
set_option linter.unusedVariables false
set_option linter.unusedSimpArgs false
namespace Go.Proofs.YtjnlgaeedcklaaaGreatDoor
open Go.RowKit

/-- An expression as a value. -/
abbrev exV (a b c d e f : Nat) (ad aw : Bool) : Value := .agg #[.int .u64 a, .int .u64 b, .int .u64 c, .int .u64 d, .int .u64 e, .int .u64 f, .bool ad, .bool aw]
abbrev exC (a b c d e f : Nat) (ad aw : Bool) : Array Value := #[.int .u64 a, .int .u64 b, .int .u64 c, .int .u64 d, .int .u64 e, .int .u64 f, .bool ad, .bool aw]
def exN (x : Xs.Ex) : Value := exV x.second x.minute x.hour x.day x.month x.week x.anyDay x.anyWeek

/-- The sets of an expression are numbers of 64 bits. -/
structure SmallX (x : Xs.Ex) : Prop where
  lt : ∀ (k : Nat) (s : Nat), x.sets[k]? = some s → s < 18446744073709551616

/-- The k-th set. -/
def setX (x : Xs.Ex) (k : Nat) : Nat := x.sets.getD k 0
theorem setX_get (x : Xs.Ex) : ∀ k, k < 6 → x.sets[k]? = some (setX x k) := six_cases rfl rfl rfl rfl rfl rfl
theorem setX_cell (x : Xs.Ex) : ∀ k, k < 6 → (exC x.second x.minute x.hour x.day x.month x.week x.anyDay x.anyWeek)[k]? = some (.int .u64 (setX x k)) := six_cases rfl rfl rfl rfl rfl rfl
theorem SmallX.set {x : Xs.Ex} (h : SmallX x) (k : Nat) (hk : k < 6) : setX x k < 18446744073709551616 := h.lt k _ (setX_get x k hk)

def okF (x : Xs.Ex) (k : Nat) : Prop := setX x k ≠ 0 ∧ setX x k &&& Fs.full (KX k) = setX x k
theorem checkX_iff (x : Xs.Ex) : Xs.checkB KX x = true ↔ (∀ k, k < 6 → okF x k) ∧ (x.anyDay = true → x.day = Fs.full (KX 3)) ∧ (x.anyWeek = true → x.week = Fs.full (KX 5)) := by
  constructor
  · intro h
    obtain ⟨h1, h2, h3⟩ := Xs.check_all h
    exact ⟨fun k hk => h1 k _ (setX_get x k hk), h2, h3⟩
  · rintro ⟨h1, h2, h3⟩
    have g := fun k (hk : k < 6) => h1 k hk
    have g0 := g 0 (by omega)
    have g1 := g 1 (by omega)
    have g2 := g 2 (by omega)
    have g3 := g 3 (by omega)
    have g4 := g 4 (by omega)
    have g5 := g 5 (by omega)
    exact Xs.check_of (K := KX) (a := (x.second, false)) (b := (x.minute, false)) (c := (x.hour, false)) (d := (x.day, x.anyDay)) (e := (x.month, false)) (f := (x.week, x.anyWeek))
      ⟨g0.1, g0.2, fun h => by cases h⟩ ⟨g1.1, g1.2, fun h => by cases h⟩ ⟨g2.1, g2.2, fun h => by cases h⟩ ⟨g3.1, g3.2, h2⟩ ⟨g4.1, g4.2, fun h => by cases h⟩ ⟨g5.1, g5.2, h3⟩
theorem checkX_bad {x : Xs.Ex} {k : Nat} (hk : k < 6) (h : ¬ okF x k) : Xs.checkB KX x = false := by
  rw [Bool.eq_false_iff]
  intro hc
  exact h (((checkX_iff x).1 hc).1 k hk)

/-- What Check returns. -/
def chk (x : Xs.Ex) : Int := if Xs.checkB KX x then 0 else 16

set_option maxRecDepth 100000 in
set_option maxHeartbeats 8000000 in
theorem expr_Check (x : Xs.Ex) (w : World) (hx : SmallX x) (hT : Tabs w) :
    Calls Tryz.prog 23 #[exV x.second x.minute x.hour x.day x.month x.week x.anyDay x.anyWeek] w fun e w' => e = .returned (.int .i64 (chk x)) ∧ Below w.heap.size w w' := by
  have HT := Lib.hid hT
  have hset := hx.set
  have hcell := setX_cell x
  have hbad := fun k => checkX_bad (x := x) (k := k)
  have hiff := checkX_iff x
  have hch : chk x = if Xs.checkB KX x then 0 else 16 := rfl
  generalize chk x = r at hch
  have Hset := Lib.hid hset
  have Hcell := Lib.hid hcell
  have Hbad := Lib.hid hbad
  have Hiff := Lib.hid hiff
  have Hch := Lib.hid hch
  clear hT hset hcell hbad hiff hch hx
  go_enter Tryz.func23, Tryz.ntmps23
  go_wp2_with (go_at_call 48; (with_reducible refine (expr_fields _ _).mono ?_); rintro e w1 ⟨rfl, hb1⟩; obtain ⟨hc1, hf1⟩ := bcell hb1)
  have HB1 : Hid (Below w.heap.size w w1) := Lib.hid (((Below.refl _ _).alloc (Nat.le_refl _) _).trans (hb1.mono (by simp)))
  have HX1 : Hid (Blk w1 w.heap.size 25 (exC x.second x.minute x.hour x.day x.month x.week x.anyDay x.anyWeek)) := Lib.hid ((Blk.new w _ _).below hb1 (by simp))
  clear hc1 hf1 hb1
  go_loopw [6] (fun i wr => ∃ k : Nat, k ≤ 6 ∧ i = .int .i64 k ∧ (∀ j, j < k → okF x j) ∧ Below w.heap.size w wr ∧ Blk wr w.heap.size 25 (exC x.second x.minute x.hour x.day x.month x.week x.anyDay x.anyWeek)) (fun i _ => 6 - (intOf i).toNat)
  case atStart => exact ⟨0, Nat.zero_le _, rfl, fun j hj => absurd hj (Nat.not_lt_zero _), HB1.out, HX1.out⟩
  case round =>
    obtain ⟨k, hk6, rfl, hall, hb, hX⟩ := hrel
    have Hall := Lib.hid hall
    have HB := Lib.hid hb
    have HX := Lib.hid hX
    have hsz := hX.lt
    clear hall hb hX
    by_cases hk : k < 6
    · have hck : wr.cell? ⟨w.heap.size, k, none⟩ = some (.int .u64 (setX x k)) := (HX.out.cell k).trans (Hcell.out k hk)
      have hsl := Hset.out k hk
      have hok : okF x k ↔ (setX x k ≠ 0 ∧ setX x k &&& Fs.full (KX k) = setX x k) := Iff.rfl
      have hfl := kx_lt k hk
      have HF : Hid (∀ W, Tabs W → Calls Tryz.prog 49 #[.int .i64 k] W fun e w' => e = .returned (.int .u64 (Fs.full (KX k))) ∧ Below W.heap.size W w') := Lib.hid fun W hT => expr_full k hk W hT
      have hidx : ∀ W, (Instr.index 102 (ptrs w.heap.size) (.int .i64 (k : Int))).run Tryz.prog W = .ok (.pointer (some ⟨w.heap.size, k, none⟩)) W := fun W => index_ptrs w.heap.size W k hk
      have hnext : okF x k → ∀ j, j < k + 1 → okF x j := fun h j hj => by
        rcases Nat.lt_or_ge j k with h1 | h1
        · exact Hall.out j h1
        · obtain rfl : j = k := by omega
          exact h
      have Hnext := Lib.hid hnext
      have Hok := Lib.hid hok
      clear hnext hok
      generalize setX x k = s at hck hsl Hok
      generalize Fs.full (KX k) = fu at hfl HF Hok
      by_cases hs0 : s = 0
      · subst hs0
        have hbad := Hbad.out k hk (by rw [Hok.out]; exact fun h => h.1 rfl)
        have Hr : Hid (r = 16) := Lib.hid (by rw [Hch.out, hbad]; rfl)
        clear hbad
        go_wp2_with fail
        go_quiet (fail)
        go_wp2
        go_ret
        exact ⟨ret_int Hr.out.symm, below_drewN HB.out _⟩
      · have d0 : ((s : Int) == 0) = false := by rw [beq_eq_false_iff_ne]; omega
        have TD : Hid (Tabs wr.drew) := Lib.hid (HT.out.grow HB.out.drew)
        by_cases h2 : s &&& fu = s
        · have HI : Hid (∀ W, Calls Tryz.prog 55 #[.int .u64 s, .int .u64 fu] W fun e w' => e = .returned (.bool true) ∧ W = w') := Lib.hid fun W => by
            have := bits_In s fu W hsl hfl
            rw [decide_eq_true h2] at this
            exact this
          have Hnx := Lib.hid (Hnext.out (Hok.out.2 ⟨hs0, h2⟩))
          clear h2 hs0 hsl hfl
          go_wp2_with fail
          go_region_held3 (fun w' => w'.cell? ⟨w.heap.size, k, none⟩ = some (.int .u64 s) ∧ Below w.heap.size w w') (first | (exact ⟨(hb2.cell (p := ⟨w.heap.size, k, none⟩) hsz).trans hck, HB.out.drew.trans (hb2.mono (Nat.le_of_lt hsz))⟩) | (exact ⟨hck, HB.out.drew⟩) | go_keep)
            (first
              | (go_at_call 49; (with_reducible refine (HF.out _ TD.out).mono ?_); rintro e w2 ⟨rfl, hb2⟩
                 have HB2 := Lib.hid hb2)
              | (go_at_call 55; (with_reducible refine (HI.out _).mono ?_); rintro e w3 ⟨rfl, rfl⟩))
          go_wp2_with fail
          go_roundw
          case rel => exact ⟨k + 1, by omega, by go_num, Hnx.out, HB.out.drew.trans (HB2.out.mono (Nat.le_of_lt hsz)), HX.out.drew.below HB2.out hsz⟩
          case measure => simp [intOf]; omega
        · have HI : Hid (∀ W, Calls Tryz.prog 55 #[.int .u64 s, .int .u64 fu] W fun e w' => e = .returned (.bool false) ∧ W = w') := Lib.hid fun W => by
            have := bits_In s fu W hsl hfl
            rw [decide_eq_false h2] at this
            exact this
          have hbad := Hbad.out k hk (by rw [Hok.out]; exact fun h => h2 h.2)
          have Hr : Hid (r = 16) := Lib.hid (by rw [Hch.out, hbad]; rfl)
          clear h2 hs0 hsl hfl hbad
          go_wp2_with fail
          go_region_held3 (fun w' => w'.cell? ⟨w.heap.size, k, none⟩ = some (.int .u64 s) ∧ Below w.heap.size w w') (first | (exact ⟨(hb2.cell (p := ⟨w.heap.size, k, none⟩) hsz).trans hck, HB.out.drew.trans (hb2.mono (Nat.le_of_lt hsz))⟩) | (exact ⟨hck, HB.out.drew⟩) | go_keep)
            (first
              | (go_at_call 49; (with_reducible refine (HF.out _ TD.out).mono ?_); rintro e w2 ⟨rfl, hb2⟩
                 have HB2 := Lib.hid hb2)
              | (go_at_call 55; (with_reducible refine (HI.out _).mono ?_); rintro e w3 ⟨rfl, rfl⟩))
          go_wp2_with fail
          go_ret
          exact ⟨ret_int Hr.out.symm, HB.out.drew.trans (HB2.out.mono (Nat.le_of_lt hsz))⟩
    · obtain rfl : k = 6 := by omega
      --STARS
      have c3 : wr.cell? ⟨w.heap.size, 3, none⟩ = some (.int .u64 x.day) := HX.out.cell 3
      have c5 : wr.cell? ⟨w.heap.size, 5, none⟩ = some (.int .u64 x.week) := HX.out.cell 5
      have c6 : wr.cell? ⟨w.heap.size, 6, none⟩ = some (.bool x.anyDay) := HX.out.cell 6
      have c7 : wr.cell? ⟨w.heap.size, 7, none⟩ = some (.bool x.anyWeek) := HX.out.cell 7
      have TD : Hid (Tabs wr.drew) := Lib.hid (HT.out.grow HB.out.drew)
      have HF3 : Hid (∀ W, Tabs W → Calls Tryz.prog 49 #[.int .i64 3] W fun e w' => e = .returned (.int .u64 (Fs.full (KX 3))) ∧ Below W.heap.size W w') := Lib.hid fun W hT => expr_full 3 (by decide) W hT
      have HF5 : Hid (∀ W, Tabs W → Calls Tryz.prog 49 #[.int .i64 5] W fun e w' => e = .returned (.int .u64 (Fs.full (KX 5))) ∧ Below W.heap.size W w') := Lib.hid fun W hT => expr_full 5 (by decide) W hT
      have s2 : w.heap.size < wr.drew.heap.size := hsz
      generalize Fs.full (KX 3) = f3 at *
      generalize Fs.full (KX 5) = f5 at *
      have hmu := yielded_undef
      have n0 : ∀ {p q : Prop}, (p → q) → ¬ q → ¬ p := fun h k a => k (h a)
      cases hd : x.anyDay with
      | false =>
        rw [hd] at c6
        have Hd := Lib.hid hd
        clear hd
        have nd : Hid (x.anyDay = true → x.day = f3) := Lib.hid fun h => by rw [Hd.out] at h; cases h
        cases hw : x.anyWeek with
        | false =>
          rw [hw] at c7
          have Hw := Lib.hid hw
          clear hw
          have nw : Hid (x.anyWeek = true → x.week = f5) := Lib.hid fun h => by rw [Hw.out] at h; cases h
          have Hr : Hid (r = 0) := Lib.hid (by rw [Hch.out]; exact if_pos (Hiff.out.2 ⟨Hall.out, nd.out, nw.out⟩))
          go_wp2_with fail
          go_quiet (fail)
          go_wp2
          go_ret
          exact ⟨ret_int Hr.out.symm, below_drewN HB.out _⟩
        | true =>
          rw [hw] at c7
          have Hw := Lib.hid hw
          clear hw
          by_cases ew : x.week = f5
          · have nw : Hid (x.anyWeek = true → x.week = f5) := Lib.hid fun _ => ew
            have d5 : ((x.week : Int) != (f5 : Int)) = false := by rw [ew]; simp
            clear ew
            have Hr : Hid (r = 0) := Lib.hid (by rw [Hch.out]; exact if_pos (Hiff.out.2 ⟨Hall.out, nd.out, nw.out⟩))
            go_wp2_with fail
            refine wp_region_held_drew (S := (fun w' => w'.cell? ⟨w.heap.size, 3, none⟩ = some (.int .u64 x.day) ∧ w'.cell? ⟨w.heap.size, 5, none⟩ = some (.int .u64 x.week) ∧ w'.cell? ⟨w.heap.size, 6, none⟩ = some (.bool false) ∧ w'.cell? ⟨w.heap.size, 7, none⟩ = some (.bool true))) (by kernel_rfl) ?hs1 (fun hHeld => ?rs1)
            case hs1 => exact ⟨c3, c5, c6, c7⟩
            refine wpAnyH_take (i := 0) (oi := ?oi2) (v := ?vv2) ?hi2 (by kernel_rfl) (by kernel_rfl) (by kernel_rfl) ?hq2 (Or.inl ⟨?hw2, ?hy2⟩) (by assumption) ?rs2
            case hi2 => (simp only [Hg]; rfl)
            case hq2 => exact fun _ _ _ h => h
            case hw2 => rfl
            case hy2 => (intro w hSw; (try dsimp only at hSw); go_simp <;> with_reducible rfl)
            simp only [Hp]
            refine wpAnyH_take (i := 1) (oi := ?oi3) (v := ?vv3) ?hi3 (by kernel_rfl) (by kernel_rfl) (by kernel_rfl) ?hq3 (Or.inl ⟨?hw3, ?hy3⟩) (by assumption) ?rs3
            case hi3 => (simp only [Hg]; rfl)
            case hq3 => exact fun _ _ _ h => h
            case hw3 => rfl
            case hy3 => (intro w hSw; (try dsimp only at hSw); go_simp <;> with_reducible rfl)
            simp only [Hp]
            refine wpAnyH_take (i := 2) (oi := ?oi4) (v := ?vv4) ?hi4 (by kernel_rfl) (by kernel_rfl) (by kernel_rfl) ?hq4 (Or.inl ⟨?hw4, ?hy4⟩) (by assumption) ?rs4
            case hi4 => (simp only [Hg]; rfl)
            case hq4 => exact fun _ _ _ h => h
            case hw4 => rfl
            case hy4 => (intro w hSw; (try dsimp only at hSw); go_simp <;> with_reducible rfl)
            simp only [Hp]
            refine wpAnyH_take (i := 3) (oi := ?oi5) (v := undef) ?hi5 (by kernel_rfl) (by kernel_rfl) (by kernel_rfl) ?hq5 (Or.inr ⟨?hw5, rfl⟩) (by assumption) ?rs5
            case hi5 => (simp only [Hg]; rfl)
            case hq5 => exact fun _ _ _ h => h
            case hw5 => rfl
            simp only [Hp]
            refine wpAnyH_take (i := 4) (oi := ?oi6) (v := undef) ?hi6 (by kernel_rfl) (by kernel_rfl) (by kernel_rfl) ?hq6 (Or.inr ⟨?hw6, rfl⟩) (by assumption) ?rs6
            case hi6 => (simp only [Hg]; rfl)
            case hq6 => exact fun _ _ _ h => h
            case hw6 => rfl
            simp only [Hp]
            refine wpAnyH_ready (rs := [5]) (by kernel_rfl) (by simp) (AllReadyH.cons (o := ?oi7) ?hi7 (fun K hK => ?rs7) AllReadyH.nil)
            case hi7 => (simp only [Hg]; rfl)
            go_simp
            refine hK.out _ _ ?hs7 (fun hHeld => ?rt7)
            case hs7 => assumption
            clear hK K
            try simp only [Hp]
            refine wpAnyH_take (i := 6) (oi := ?oi8) (v := undef) ?hi8 (by kernel_rfl) (by kernel_rfl) (by kernel_rfl) ?hq8 (Or.inr ⟨?hw8, rfl⟩) (by assumption) ?rs8
            case hi8 => (simp only [Hg]; rfl)
            case hq8 => exact fun _ _ _ h => h
            case hw8 => rfl
            simp only [Hp]
            refine wpAnyH_take (i := 7) (oi := ?oi9) (v := ?vv9) ?hi9 (by kernel_rfl) (by kernel_rfl) (by kernel_rfl) ?hq9 (Or.inl ⟨?hw9, ?hy9⟩) (by assumption) ?rs9
            case hi9 => (simp only [Hg]; rfl)
            case hq9 => exact fun _ _ _ h => h
            case hw9 => rfl
            case hy9 => (intro w hSw; (try dsimp only at hSw); go_simp <;> with_reducible rfl)
            simp only [Hp]
            refine wpAnyH_take (i := 8) (oi := ?oi10) (v := ?vv10) ?hi10 (by kernel_rfl) (by kernel_rfl) (by kernel_rfl) ?hq10 (Or.inl ⟨?hw10, ?hy10⟩) (by assumption) ?rs10
            case hi10 => (simp only [Hg]; rfl)
            case hq10 => exact fun _ _ _ h => h
            case hw10 => rfl
            case hy10 => (intro w hSw; (try dsimp only at hSw); go_simp <;> with_reducible rfl)
            simp only [Hp]
            refine wpAnyH_take (i := 9) (oi := ?oi11) (v := ?vv11) ?hi11 (by kernel_rfl) (by kernel_rfl) (by kernel_rfl) ?hq11 (Or.inl ⟨?hw11, ?hy11⟩) (by assumption) ?rs11
            case hi11 => (simp only [Hg]; rfl)
            case hq11 => exact fun _ _ _ h => h
            case hw11 => rfl
            case hy11 => (intro w hSw; (try dsimp only at hSw); go_simp <;> with_reducible rfl)
            simp only [Hp]
            refine wpAnyH_take (i := 10) (oi := ?oi12) (v := ?vv12) ?hi12 (by kernel_rfl) (by kernel_rfl) (by kernel_rfl) ?hq12 (Or.inl ⟨?hw12, ?hy12⟩) (by assumption) ?rs12
            case hi12 => (simp only [Hg]; rfl)
            case hq12 => exact fun _ _ _ h => h
            case hw12 => rfl
            case hy12 => (intro w hSw; (try dsimp only at hSw); go_simp <;> with_reducible rfl)
            simp only [Hp]
            refine wpAnyH_take (i := 11) (oi := ?oi13) (v := ?vv13) ?hi13 (by kernel_rfl) (by kernel_rfl) (by kernel_rfl) ?hq13 (Or.inl ⟨?hw13, ?hy13⟩) (by assumption) ?rs13
            case hi13 => (simp only [Hg]; rfl)
            case hq13 => exact fun _ _ _ h => h
            case hw13 => rfl
            case hy13 => (intro w hSw; (try dsimp only at hSw); go_simp <;> with_reducible rfl)
            simp only [Hp]
            refine wpAnyH_take (i := 12) (oi := ?oi14) (v := ?vv14) ?hi14 (by kernel_rfl) (by kernel_rfl) (by kernel_rfl) ?hq14 (Or.inl ⟨?hw14, ?hy14⟩) (by assumption) ?rs14
            case hi14 => (simp only [Hg]; rfl)
            case hq14 => exact fun _ _ _ h => h
            case hw14 => rfl
            case hy14 => (intro w hSw; (try dsimp only at hSw); go_simp <;> with_reducible rfl)
            simp only [Hp]
            refine wpAnyH_take (i := 13) (oi := ?oi15) (v := ?vv15) ?hi15 (by kernel_rfl) (by kernel_rfl) (by kernel_rfl) ?hq15 (Or.inl ⟨?hw15, ?hy15⟩) (by assumption) ?rs15
            case hi15 => (simp only [Hg]; rfl)
            case hq15 => exact fun _ _ _ h => h
            case hw15 => rfl
            case hy15 => (intro w hSw; (try dsimp only at hSw); go_simp <;> with_reducible rfl)
            simp only [Hp]
            refine wpAnyH_ready (rs := [14]) (by kernel_rfl) (by simp) (AllReadyH.cons (o := ?oi16) ?hi16 (fun K hK => ?rs16) AllReadyH.nil)
            case hi16 => (simp only [Hg]; rfl)
            go_simp
            (go_at_call 49; (with_reducible refine (HF5.out _ TD.out).mono ?_); rintro e w2 ⟨rfl, hb2⟩; have HB2 := Lib.hid hb2; have s3 : w.heap.size < w2.heap.size := Nat.lt_of_lt_of_le hsz hb2.size; have T2 := Lib.hid (TD.out.grow hb2))
            refine hK.out _ _ ?hs16 (fun hHeld => ?rt16)
            case hs16 => exact ⟨(hb2.cell (p := ⟨w.heap.size, 3, none⟩) s2).trans c3, (hb2.cell (p := ⟨w.heap.size, 5, none⟩) s2).trans c5, (hb2.cell (p := ⟨w.heap.size, 6, none⟩) s2).trans c6, (hb2.cell (p := ⟨w.heap.size, 7, none⟩) s2).trans c7⟩
            clear hK K
            try simp only [Hp]
            refine wpAnyH_take (i := 15) (oi := ?oi17) (v := ?vv17) ?hi17 (by kernel_rfl) (by kernel_rfl) (by kernel_rfl) ?hq17 (Or.inl ⟨?hw17, ?hy17⟩) (by assumption) ?rs17
            case hi17 => (simp only [Hg]; rfl)
            case hq17 => exact fun _ _ _ h => h
            case hw17 => rfl
            case hy17 => (intro w hSw; (try dsimp only at hSw); go_simp <;> with_reducible rfl)
            simp only [Hp]
            refine wpAnyH_take (i := 16) (oi := ?oi18) (v := ?vv18) ?hi18 (by kernel_rfl) (by kernel_rfl) (by kernel_rfl) ?hq18 (Or.inl ⟨?hw18, ?hy18⟩) (by assumption) ?rs18
            case hi18 => (simp only [Hg]; rfl)
            case hq18 => exact fun _ _ _ h => h
            case hw18 => rfl
            case hy18 => (intro w hSw; (try dsimp only at hSw); go_simp <;> with_reducible rfl)
            simp only [Hp]
            refine wpAnyH_take (i := 17) (oi := ?oi19) (v := ?vv19) ?hi19 (by kernel_rfl) (by kernel_rfl) (by kernel_rfl) ?hq19 (Or.inl ⟨?hw19, ?hy19⟩) (by assumption) ?rs19
            case hi19 => (simp only [Hg]; rfl)
            case hq19 => exact fun _ _ _ h => h
            case hw19 => rfl
            case hy19 => (intro w hSw; (try dsimp only at hSw); go_simp <;> with_reducible rfl)
            simp only [Hp]
            refine wpAnyH_done (by kernel_rfl) ?_ _
            go_wp2_with fail
            go_ret
            exact ⟨ret_int Hr.out.symm, HB.out.drew.trans (HB2.out.mono (Nat.le_of_lt hsz))⟩
          · have d5 : ((x.week : Int) != (f5 : Int)) = true := by rw [bne_iff_ne]; omega
            have Ew := Lib.hid ew
            clear ew
            have Hr : Hid (r = 16) := Lib.hid (by rw [Hch.out]; exact if_neg fun h => Ew.out ((Hiff.out.1 h).2.2 Hw.out))
            go_wp2_with fail
            refine wp_region_held_drew (S := (fun w' => w'.cell? ⟨w.heap.size, 3, none⟩ = some (.int .u64 x.day) ∧ w'.cell? ⟨w.heap.size, 5, none⟩ = some (.int .u64 x.week) ∧ w'.cell? ⟨w.heap.size, 6, none⟩ = some (.bool false) ∧ w'.cell? ⟨w.heap.size, 7, none⟩ = some (.bool true))) (by kernel_rfl) ?hs20 (fun hHeld => ?rs20)
            case hs20 => exact ⟨c3, c5, c6, c7⟩
            refine wpAnyH_take (i := 0) (oi := ?oi21) (v := ?vv21) ?hi21 (by kernel_rfl) (by kernel_rfl) (by kernel_rfl) ?hq21 (Or.inl ⟨?hw21, ?hy21⟩) (by assumption) ?rs21
            case hi21 => (simp only [Hg]; rfl)
            case hq21 => exact fun _ _ _ h => h
            case hw21 => rfl
            case hy21 => (intro w hSw; (try dsimp only at hSw); go_simp <;> with_reducible rfl)
            simp only [Hp]
            refine wpAnyH_take (i := 1) (oi := ?oi22) (v := ?vv22) ?hi22 (by kernel_rfl) (by kernel_rfl) (by kernel_rfl) ?hq22 (Or.inl ⟨?hw22, ?hy22⟩) (by assumption) ?rs22
            case hi22 => (simp only [Hg]; rfl)
            case hq22 => exact fun _ _ _ h => h
            case hw22 => rfl
            case hy22 => (intro w hSw; (try dsimp only at hSw); go_simp <;> with_reducible rfl)
            simp only [Hp]
            refine wpAnyH_take (i := 2) (oi := ?oi23) (v := ?vv23) ?hi23 (by kernel_rfl) (by kernel_rfl) (by kernel_rfl) ?hq23 (Or.inl ⟨?hw23, ?hy23⟩) (by assumption) ?rs23
            case hi23 => (simp only [Hg]; rfl)
            case hq23 => exact fun _ _ _ h => h
            case hw23 => rfl
            case hy23 => (intro w hSw; (try dsimp only at hSw); go_simp <;> with_reducible rfl)
            simp only [Hp]
            refine wpAnyH_take (i := 3) (oi := ?oi24) (v := undef) ?hi24 (by kernel_rfl) (by kernel_rfl) (by kernel_rfl) ?hq24 (Or.inr ⟨?hw24, rfl⟩) (by assumption) ?rs24
            case hi24 => (simp only [Hg]; rfl)
            case hq24 => exact fun _ _ _ h => h
            case hw24 => rfl
            simp only [Hp]
            refine wpAnyH_take (i := 4) (oi := ?oi25) (v := undef) ?hi25 (by kernel_rfl) (by kernel_rfl) (by kernel_rfl) ?hq25 (Or.inr ⟨?hw25, rfl⟩) (by assumption) ?rs25
            case hi25 => (simp only [Hg]; rfl)
            case hq25 => exact fun _ _ _ h => h
            case hw25 => rfl
            simp only [Hp]
            refine wpAnyH_ready (rs := [5]) (by kernel_rfl) (by simp) (AllReadyH.cons (o := ?oi26) ?hi26 (fun K hK => ?rs26) AllReadyH.nil)
            case hi26 => (simp only [Hg]; rfl)
            go_simp
            refine hK.out _ _ ?hs26 (fun hHeld => ?rt26)
            case hs26 => assumption
            clear hK K
            try simp only [Hp]
            refine wpAnyH_take (i := 6) (oi := ?oi27) (v := undef) ?hi27 (by kernel_rfl) (by kernel_rfl) (by kernel_rfl) ?hq27 (Or.inr ⟨?hw27, rfl⟩) (by assumption) ?rs27
            case hi27 => (simp only [Hg]; rfl)
            case hq27 => exact fun _ _ _ h => h
            case hw27 => rfl
            simp only [Hp]
            refine wpAnyH_take (i := 7) (oi := ?oi28) (v := ?vv28) ?hi28 (by kernel_rfl) (by kernel_rfl) (by kernel_rfl) ?hq28 (Or.inl ⟨?hw28, ?hy28⟩) (by assumption) ?rs28
            case hi28 => (simp only [Hg]; rfl)
            case hq28 => exact fun _ _ _ h => h
            case hw28 => rfl
            case hy28 => (intro w hSw; (try dsimp only at hSw); go_simp <;> with_reducible rfl)
            simp only [Hp]
            refine wpAnyH_take (i := 8) (oi := ?oi29) (v := ?vv29) ?hi29 (by kernel_rfl) (by kernel_rfl) (by kernel_rfl) ?hq29 (Or.inl ⟨?hw29, ?hy29⟩) (by assumption) ?rs29
            case hi29 => (simp only [Hg]; rfl)
            case hq29 => exact fun _ _ _ h => h
            case hw29 => rfl
            case hy29 => (intro w hSw; (try dsimp only at hSw); go_simp <;> with_reducible rfl)
            simp only [Hp]
            refine wpAnyH_take (i := 9) (oi := ?oi30) (v := ?vv30) ?hi30 (by kernel_rfl) (by kernel_rfl) (by kernel_rfl) ?hq30 (Or.inl ⟨?hw30, ?hy30⟩) (by assumption) ?rs30
            case hi30 => (simp only [Hg]; rfl)
            case hq30 => exact fun _ _ _ h => h
            case hw30 => rfl
            case hy30 => (intro w hSw; (try dsimp only at hSw); go_simp <;> with_reducible rfl)
            simp only [Hp]
            refine wpAnyH_take (i := 10) (oi := ?oi31) (v := ?vv31) ?hi31 (by kernel_rfl) (by kernel_rfl) (by kernel_rfl) ?hq31 (Or.inl ⟨?hw31, ?hy31⟩) (by assumption) ?rs31
            case hi31 => (simp only [Hg]; rfl)
            case hq31 => exact fun _ _ _ h => h
            case hw31 => rfl
            case hy31 => (intro w hSw; (try dsimp only at hSw); go_simp <;> with_reducible rfl)
            simp only [Hp]
            refine wpAnyH_take (i := 11) (oi := ?oi32) (v := ?vv32) ?hi32 (by kernel_rfl) (by kernel_rfl) (by kernel_rfl) ?hq32 (Or.inl ⟨?hw32, ?hy32⟩) (by assumption) ?rs32
            case hi32 => (simp only [Hg]; rfl)
            case hq32 => exact fun _ _ _ h => h
            case hw32 => rfl
            case hy32 => (intro w hSw; (try dsimp only at hSw); go_simp <;> with_reducible rfl)
            simp only [Hp]
            refine wpAnyH_take (i := 12) (oi := ?oi33) (v := ?vv33) ?hi33 (by kernel_rfl) (by kernel_rfl) (by kernel_rfl) ?hq33 (Or.inl ⟨?hw33, ?hy33⟩) (by assumption) ?rs33
            case hi33 => (simp only [Hg]; rfl)
            case hq33 => exact fun _ _ _ h => h
            case hw33 => rfl
            case hy33 => (intro w hSw; (try dsimp only at hSw); go_simp <;> with_reducible rfl)
            simp only [Hp]
            refine wpAnyH_take (i := 13) (oi := ?oi34) (v := ?vv34) ?hi34 (by kernel_rfl) (by kernel_rfl) (by kernel_rfl) ?hq34 (Or.inl ⟨?hw34, ?hy34⟩) (by assumption) ?rs34
            case hi34 => (simp only [Hg]; rfl)
            case hq34 => exact fun _ _ _ h => h
            case hw34 => rfl
            case hy34 => (intro w hSw; (try dsimp only at hSw); go_simp <;> with_reducible rfl)
            simp only [Hp]
            refine wpAnyH_ready (rs := [14]) (by kernel_rfl) (by simp) (AllReadyH.cons (o := ?oi35) ?hi35 (fun K hK => ?rs35) AllReadyH.nil)
            case hi35 => (simp only [Hg]; rfl)
            go_simp
            (go_at_call 49; (with_reducible refine (HF5.out _ TD.out).mono ?_); rintro e w2 ⟨rfl, hb2⟩; have HB2 := Lib.hid hb2; have s3 : w.heap.size < w2.heap.size := Nat.lt_of_lt_of_le hsz hb2.size; have T2 := Lib.hid (TD.out.grow hb2))
            refine hK.out _ _ ?hs35 (fun hHeld => ?rt35)
            case hs35 => exact ⟨(hb2.cell (p := ⟨w.heap.size, 3, none⟩) s2).trans c3, (hb2.cell (p := ⟨w.heap.size, 5, none⟩) s2).trans c5, (hb2.cell (p := ⟨w.heap.size, 6, none⟩) s2).trans c6, (hb2.cell (p := ⟨w.heap.size, 7, none⟩) s2).trans c7⟩
            clear hK K
            try simp only [Hp]
            refine wpAnyH_take (i := 15) (oi := ?oi36) (v := ?vv36) ?hi36 (by kernel_rfl) (by kernel_rfl) (by kernel_rfl) ?hq36 (Or.inl ⟨?hw36, ?hy36⟩) (by assumption) ?rs36
            case hi36 => (simp only [Hg]; rfl)
            case hq36 => exact fun _ _ _ h => h
            case hw36 => rfl
            case hy36 => (intro w hSw; (try dsimp only at hSw); go_simp <;> with_reducible rfl)
            simp only [Hp]
            refine wpAnyH_take (i := 16) (oi := ?oi37) (v := ?vv37) ?hi37 (by kernel_rfl) (by kernel_rfl) (by kernel_rfl) ?hq37 (Or.inl ⟨?hw37, ?hy37⟩) (by assumption) ?rs37
            case hi37 => (simp only [Hg]; rfl)
            case hq37 => exact fun _ _ _ h => h
            case hw37 => rfl
            case hy37 => (intro w hSw; (try dsimp only at hSw); go_simp <;> with_reducible rfl)
            simp only [Hp]
            refine wpAnyH_take (i := 17) (oi := ?oi38) (v := ?vv38) ?hi38 (by kernel_rfl) (by kernel_rfl) (by kernel_rfl) ?hq38 (Or.inl ⟨?hw38, ?hy38⟩) (by assumption) ?rs38
            case hi38 => (simp only [Hg]; rfl)
            case hq38 => exact fun _ _ _ h => h
            case hw38 => rfl
            case hy38 => (intro w hSw; (try dsimp only at hSw); go_simp <;> with_reducible rfl)
            simp only [Hp]
            refine wpAnyH_done (by kernel_rfl) ?_ _
            go_wp2_with fail
            go_ret
            exact ⟨ret_int Hr.out.symm, HB.out.drew.trans (HB2.out.mono (Nat.le_of_lt hsz))⟩
      | true =>
        rw [hd] at c6
        have Hd := Lib.hid hd
        clear hd
        by_cases ed : x.day = f3
        · have nd : Hid (x.anyDay = true → x.day = f3) := Lib.hid fun _ => ed
          have d3 : ((x.day : Int) != (f3 : Int)) = false := by rw [ed]; simp
          clear ed
          cases hw : x.anyWeek with
          | false =>
            rw [hw] at c7
            have Hw := Lib.hid hw
            clear hw
            have nw : Hid (x.anyWeek = true → x.week = f5) := Lib.hid fun h => by rw [Hw.out] at h; cases h
            have Hr : Hid (r = 0) := Lib.hid (by rw [Hch.out]; exact if_pos (Hiff.out.2 ⟨Hall.out, nd.out, nw.out⟩))
            go_wp2_with fail
            refine wp_region_held_drew (S := (fun w' => w'.cell? ⟨w.heap.size, 3, none⟩ = some (.int .u64 x.day) ∧ w'.cell? ⟨w.heap.size, 5, none⟩ = some (.int .u64 x.week) ∧ w'.cell? ⟨w.heap.size, 6, none⟩ = some (.bool true) ∧ w'.cell? ⟨w.heap.size, 7, none⟩ = some (.bool false))) (by kernel_rfl) ?hs39 (fun hHeld => ?rs39)
            case hs39 => exact ⟨c3, c5, c6, c7⟩
            refine wpAnyH_take (i := 0) (oi := ?oi40) (v := ?vv40) ?hi40 (by kernel_rfl) (by kernel_rfl) (by kernel_rfl) ?hq40 (Or.inl ⟨?hw40, ?hy40⟩) (by assumption) ?rs40
            case hi40 => (simp only [Hg]; rfl)
            case hq40 => exact fun _ _ _ h => h
            case hw40 => rfl
            case hy40 => (intro w hSw; (try dsimp only at hSw); go_simp <;> with_reducible rfl)
            simp only [Hp]
            refine wpAnyH_take (i := 1) (oi := ?oi41) (v := ?vv41) ?hi41 (by kernel_rfl) (by kernel_rfl) (by kernel_rfl) ?hq41 (Or.inl ⟨?hw41, ?hy41⟩) (by assumption) ?rs41
            case hi41 => (simp only [Hg]; rfl)
            case hq41 => exact fun _ _ _ h => h
            case hw41 => rfl
            case hy41 => (intro w hSw; (try dsimp only at hSw); go_simp <;> with_reducible rfl)
            simp only [Hp]
            refine wpAnyH_take (i := 2) (oi := ?oi42) (v := ?vv42) ?hi42 (by kernel_rfl) (by kernel_rfl) (by kernel_rfl) ?hq42 (Or.inl ⟨?hw42, ?hy42⟩) (by assumption) ?rs42
            case hi42 => (simp only [Hg]; rfl)
            case hq42 => exact fun _ _ _ h => h
            case hw42 => rfl
            case hy42 => (intro w hSw; (try dsimp only at hSw); go_simp <;> with_reducible rfl)
            simp only [Hp]
            refine wpAnyH_take (i := 3) (oi := ?oi43) (v := ?vv43) ?hi43 (by kernel_rfl) (by kernel_rfl) (by kernel_rfl) ?hq43 (Or.inl ⟨?hw43, ?hy43⟩) (by assumption) ?rs43
            case hi43 => (simp only [Hg]; rfl)
            case hq43 => exact fun _ _ _ h => h
            case hw43 => rfl
            case hy43 => (intro w hSw; (try dsimp only at hSw); go_simp <;> with_reducible rfl)
            simp only [Hp]
            refine wpAnyH_take (i := 4) (oi := ?oi44) (v := ?vv44) ?hi44 (by kernel_rfl) (by kernel_rfl) (by kernel_rfl) ?hq44 (Or.inl ⟨?hw44, ?hy44⟩) (by assumption) ?rs44
            case hi44 => (simp only [Hg]; rfl)
            case hq44 => exact fun _ _ _ h => h
            case hw44 => rfl
            case hy44 => (intro w hSw; (try dsimp only at hSw); go_simp <;> with_reducible rfl)
            simp only [Hp]
            refine wpAnyH_ready (rs := [5]) (by kernel_rfl) (by simp) (AllReadyH.cons (o := ?oi45) ?hi45 (fun K hK => ?rs45) AllReadyH.nil)
            case hi45 => (simp only [Hg]; rfl)
            go_simp
            (go_at_call 49; (with_reducible refine (HF3.out _ TD.out).mono ?_); rintro e w2 ⟨rfl, hb2⟩; have HB2 := Lib.hid hb2; have s3 : w.heap.size < w2.heap.size := Nat.lt_of_lt_of_le hsz hb2.size; have T2 := Lib.hid (TD.out.grow hb2))
            refine hK.out _ _ ?hs45 (fun hHeld => ?rt45)
            case hs45 => exact ⟨(hb2.cell (p := ⟨w.heap.size, 3, none⟩) s2).trans c3, (hb2.cell (p := ⟨w.heap.size, 5, none⟩) s2).trans c5, (hb2.cell (p := ⟨w.heap.size, 6, none⟩) s2).trans c6, (hb2.cell (p := ⟨w.heap.size, 7, none⟩) s2).trans c7⟩
            clear hK K
            try simp only [Hp]
            refine wpAnyH_take (i := 6) (oi := ?oi46) (v := ?vv46) ?hi46 (by kernel_rfl) (by kernel_rfl) (by kernel_rfl) ?hq46 (Or.inl ⟨?hw46, ?hy46⟩) (by assumption) ?rs46
            case hi46 => (simp only [Hg]; rfl)
            case hq46 => exact fun _ _ _ h => h
            case hw46 => rfl
            case hy46 => (intro w hSw; (try dsimp only at hSw); go_simp <;> with_reducible rfl)
            simp only [Hp]
            refine wpAnyH_take (i := 7) (oi := ?oi47) (v := ?vv47) ?hi47 (by kernel_rfl) (by kernel_rfl) (by kernel_rfl) ?hq47 (Or.inl ⟨?hw47, ?hy47⟩) (by assumption) ?rs47
            case hi47 => (simp only [Hg]; rfl)
            case hq47 => exact fun _ _ _ h => h
            case hw47 => rfl
            case hy47 => (intro w hSw; (try dsimp only at hSw); go_simp <;> with_reducible rfl)
            simp only [Hp]
            refine wpAnyH_take (i := 8) (oi := ?oi48) (v := ?vv48) ?hi48 (by kernel_rfl) (by kernel_rfl) (by kernel_rfl) ?hq48 (Or.inl ⟨?hw48, ?hy48⟩) (by assumption) ?rs48
            case hi48 => (simp only [Hg]; rfl)
            case hq48 => exact fun _ _ _ h => h
            case hw48 => rfl
            case hy48 => (intro w hSw; (try dsimp only at hSw); go_simp <;> with_reducible rfl)
            simp only [Hp]
            refine wpAnyH_take (i := 9) (oi := ?oi49) (v := ?vv49) ?hi49 (by kernel_rfl) (by kernel_rfl) (by kernel_rfl) ?hq49 (Or.inl ⟨?hw49, ?hy49⟩) (by assumption) ?rs49
            case hi49 => (simp only [Hg]; rfl)
            case hq49 => exact fun _ _ _ h => h
            case hw49 => rfl
            case hy49 => (intro w hSw; (try dsimp only at hSw); go_simp <;> with_reducible rfl)
            simp only [Hp]
            refine wpAnyH_take (i := 10) (oi := ?oi50) (v := ?vv50) ?hi50 (by kernel_rfl) (by kernel_rfl) (by kernel_rfl) ?hq50 (Or.inl ⟨?hw50, ?hy50⟩) (by assumption) ?rs50
            case hi50 => (simp only [Hg]; rfl)
            case hq50 => exact fun _ _ _ h => h
            case hw50 => rfl
            case hy50 => (intro w hSw; (try dsimp only at hSw); go_simp <;> with_reducible rfl)
            simp only [Hp]
            refine wpAnyH_take (i := 11) (oi := ?oi51) (v := ?vv51) ?hi51 (by kernel_rfl) (by kernel_rfl) (by kernel_rfl) ?hq51 (Or.inl ⟨?hw51, ?hy51⟩) (by assumption) ?rs51
            case hi51 => (simp only [Hg]; rfl)
            case hq51 => exact fun _ _ _ h => h
            case hw51 => rfl
            case hy51 => (intro w hSw; (try dsimp only at hSw); go_simp <;> with_reducible rfl)
            simp only [Hp]
            refine wpAnyH_take (i := 12) (oi := ?oi52) (v := undef) ?hi52 (by kernel_rfl) (by kernel_rfl) (by kernel_rfl) ?hq52 (Or.inr ⟨?hw52, rfl⟩) (by assumption) ?rs52
            case hi52 => (simp only [Hg]; rfl)
            case hq52 => exact fun _ _ _ h => h
            case hw52 => rfl
            simp only [Hp]
            refine wpAnyH_take (i := 13) (oi := ?oi53) (v := undef) ?hi53 (by kernel_rfl) (by kernel_rfl) (by kernel_rfl) ?hq53 (Or.inr ⟨?hw53, rfl⟩) (by assumption) ?rs53
            case hi53 => (simp only [Hg]; rfl)
            case hq53 => exact fun _ _ _ h => h
            case hw53 => rfl
            simp only [Hp]
            refine wpAnyH_ready (rs := [14]) (by kernel_rfl) (by simp) (AllReadyH.cons (o := ?oi54) ?hi54 (fun K hK => ?rs54) AllReadyH.nil)
            case hi54 => (simp only [Hg]; rfl)
            go_simp
            refine hK.out _ _ ?hs54 (fun hHeld => ?rt54)
            case hs54 => assumption
            clear hK K
            try simp only [Hp]
            refine wpAnyH_take (i := 15) (oi := ?oi55) (v := undef) ?hi55 (by kernel_rfl) (by kernel_rfl) (by kernel_rfl) ?hq55 (Or.inr ⟨?hw55, rfl⟩) (by assumption) ?rs55
            case hi55 => (simp only [Hg]; rfl)
            case hq55 => exact fun _ _ _ h => h
            case hw55 => rfl
            simp only [Hp]
            refine wpAnyH_take (i := 16) (oi := ?oi56) (v := ?vv56) ?hi56 (by kernel_rfl) (by kernel_rfl) (by kernel_rfl) ?hq56 (Or.inl ⟨?hw56, ?hy56⟩) (by assumption) ?rs56
            case hi56 => (simp only [Hg]; rfl)
            case hq56 => exact fun _ _ _ h => h
            case hw56 => rfl
            case hy56 => (intro w hSw; (try dsimp only at hSw); go_simp <;> with_reducible rfl)
            simp only [Hp]
            refine wpAnyH_take (i := 17) (oi := ?oi57) (v := ?vv57) ?hi57 (by kernel_rfl) (by kernel_rfl) (by kernel_rfl) ?hq57 (Or.inl ⟨?hw57, ?hy57⟩) (by assumption) ?rs57
            case hi57 => (simp only [Hg]; rfl)
            case hq57 => exact fun _ _ _ h => h
            case hw57 => rfl
            case hy57 => (intro w hSw; (try dsimp only at hSw); go_simp <;> with_reducible rfl)
            simp only [Hp]
            refine wpAnyH_done (by kernel_rfl) ?_ _
            go_wp2_with fail
            go_ret
            exact ⟨ret_int Hr.out.symm, HB.out.drew.trans (HB2.out.mono (Nat.le_of_lt hsz))⟩
          | true =>
            rw [hw] at c7
            have Hw := Lib.hid hw
            clear hw
            by_cases ew : x.week = f5
            · have nw : Hid (x.anyWeek = true → x.week = f5) := Lib.hid fun _ => ew
              have d5 : ((x.week : Int) != (f5 : Int)) = false := by rw [ew]; simp
              clear ew
              have Hr : Hid (r = 0) := Lib.hid (by rw [Hch.out]; exact if_pos (Hiff.out.2 ⟨Hall.out, nd.out, nw.out⟩))
              go_wp2_with fail
              refine wp_region_held_drew (S := (fun w' => w'.cell? ⟨w.heap.size, 3, none⟩ = some (.int .u64 x.day) ∧ w'.cell? ⟨w.heap.size, 5, none⟩ = some (.int .u64 x.week) ∧ w'.cell? ⟨w.heap.size, 6, none⟩ = some (.bool true) ∧ w'.cell? ⟨w.heap.size, 7, none⟩ = some (.bool true))) (by kernel_rfl) ?hs58 (fun hHeld => ?rs58)
              case hs58 => exact ⟨c3, c5, c6, c7⟩
              refine wpAnyH_take (i := 0) (oi := ?oi59) (v := ?vv59) ?hi59 (by kernel_rfl) (by kernel_rfl) (by kernel_rfl) ?hq59 (Or.inl ⟨?hw59, ?hy59⟩) (by assumption) ?rs59
              case hi59 => (simp only [Hg]; rfl)
              case hq59 => exact fun _ _ _ h => h
              case hw59 => rfl
              case hy59 => (intro w hSw; (try dsimp only at hSw); go_simp <;> with_reducible rfl)
              simp only [Hp]
              refine wpAnyH_take (i := 1) (oi := ?oi60) (v := ?vv60) ?hi60 (by kernel_rfl) (by kernel_rfl) (by kernel_rfl) ?hq60 (Or.inl ⟨?hw60, ?hy60⟩) (by assumption) ?rs60
              case hi60 => (simp only [Hg]; rfl)
              case hq60 => exact fun _ _ _ h => h
              case hw60 => rfl
              case hy60 => (intro w hSw; (try dsimp only at hSw); go_simp <;> with_reducible rfl)
              simp only [Hp]
              refine wpAnyH_take (i := 2) (oi := ?oi61) (v := ?vv61) ?hi61 (by kernel_rfl) (by kernel_rfl) (by kernel_rfl) ?hq61 (Or.inl ⟨?hw61, ?hy61⟩) (by assumption) ?rs61
              case hi61 => (simp only [Hg]; rfl)
              case hq61 => exact fun _ _ _ h => h
              case hw61 => rfl
              case hy61 => (intro w hSw; (try dsimp only at hSw); go_simp <;> with_reducible rfl)
              simp only [Hp]
              refine wpAnyH_take (i := 3) (oi := ?oi62) (v := ?vv62) ?hi62 (by kernel_rfl) (by kernel_rfl) (by kernel_rfl) ?hq62 (Or.inl ⟨?hw62, ?hy62⟩) (by assumption) ?rs62
              case hi62 => (simp only [Hg]; rfl)
              case hq62 => exact fun _ _ _ h => h
              case hw62 => rfl
              case hy62 => (intro w hSw; (try dsimp only at hSw); go_simp <;> with_reducible rfl)
              simp only [Hp]
              refine wpAnyH_take (i := 4) (oi := ?oi63) (v := ?vv63) ?hi63 (by kernel_rfl) (by kernel_rfl) (by kernel_rfl) ?hq63 (Or.inl ⟨?hw63, ?hy63⟩) (by assumption) ?rs63
              case hi63 => (simp only [Hg]; rfl)
              case hq63 => exact fun _ _ _ h => h
              case hw63 => rfl
              case hy63 => (intro w hSw; (try dsimp only at hSw); go_simp <;> with_reducible rfl)
              simp only [Hp]
              refine wpAnyH_ready (rs := [5]) (by kernel_rfl) (by simp) (AllReadyH.cons (o := ?oi64) ?hi64 (fun K hK => ?rs64) AllReadyH.nil)
              case hi64 => (simp only [Hg]; rfl)
              go_simp
              (go_at_call 49; (with_reducible refine (HF3.out _ TD.out).mono ?_); rintro e w2 ⟨rfl, hb2⟩; have HB2 := Lib.hid hb2; have s3 : w.heap.size < w2.heap.size := Nat.lt_of_lt_of_le hsz hb2.size; have T2 := Lib.hid (TD.out.grow hb2))
              refine hK.out _ _ ?hs64 (fun hHeld => ?rt64)
              case hs64 => exact ⟨(hb2.cell (p := ⟨w.heap.size, 3, none⟩) s2).trans c3, (hb2.cell (p := ⟨w.heap.size, 5, none⟩) s2).trans c5, (hb2.cell (p := ⟨w.heap.size, 6, none⟩) s2).trans c6, (hb2.cell (p := ⟨w.heap.size, 7, none⟩) s2).trans c7⟩
              clear hK K
              try simp only [Hp]
              refine wpAnyH_take (i := 6) (oi := ?oi65) (v := ?vv65) ?hi65 (by kernel_rfl) (by kernel_rfl) (by kernel_rfl) ?hq65 (Or.inl ⟨?hw65, ?hy65⟩) (by assumption) ?rs65
              case hi65 => (simp only [Hg]; rfl)
              case hq65 => exact fun _ _ _ h => h
              case hw65 => rfl
              case hy65 => (intro w hSw; (try dsimp only at hSw); go_simp <;> with_reducible rfl)
              simp only [Hp]
              refine wpAnyH_take (i := 7) (oi := ?oi66) (v := ?vv66) ?hi66 (by kernel_rfl) (by kernel_rfl) (by kernel_rfl) ?hq66 (Or.inl ⟨?hw66, ?hy66⟩) (by assumption) ?rs66
              case hi66 => (simp only [Hg]; rfl)
              case hq66 => exact fun _ _ _ h => h
              case hw66 => rfl
              case hy66 => (intro w hSw; (try dsimp only at hSw); go_simp <;> with_reducible rfl)
              simp only [Hp]
              refine wpAnyH_take (i := 8) (oi := ?oi67) (v := ?vv67) ?hi67 (by kernel_rfl) (by kernel_rfl) (by kernel_rfl) ?hq67 (Or.inl ⟨?hw67, ?hy67⟩) (by assumption) ?rs67
              case hi67 => (simp only [Hg]; rfl)
              case hq67 => exact fun _ _ _ h => h
              case hw67 => rfl
              case hy67 => (intro w hSw; (try dsimp only at hSw); go_simp <;> with_reducible rfl)
              simp only [Hp]
              refine wpAnyH_take (i := 9) (oi := ?oi68) (v := ?vv68) ?hi68 (by kernel_rfl) (by kernel_rfl) (by kernel_rfl) ?hq68 (Or.inl ⟨?hw68, ?hy68⟩) (by assumption) ?rs68
              case hi68 => (simp only [Hg]; rfl)
              case hq68 => exact fun _ _ _ h => h
              case hw68 => rfl
              case hy68 => (intro w hSw; (try dsimp only at hSw); go_simp <;> with_reducible rfl)
              simp only [Hp]
              refine wpAnyH_take (i := 10) (oi := ?oi69) (v := ?vv69) ?hi69 (by kernel_rfl) (by kernel_rfl) (by kernel_rfl) ?hq69 (Or.inl ⟨?hw69, ?hy69⟩) (by assumption) ?rs69
              case hi69 => (simp only [Hg]; rfl)
              case hq69 => exact fun _ _ _ h => h
              case hw69 => rfl
              case hy69 => (intro w hSw; (try dsimp only at hSw); go_simp <;> with_reducible rfl)
              simp only [Hp]
              refine wpAnyH_take (i := 11) (oi := ?oi70) (v := ?vv70) ?hi70 (by kernel_rfl) (by kernel_rfl) (by kernel_rfl) ?hq70 (Or.inl ⟨?hw70, ?hy70⟩) (by assumption) ?rs70
              case hi70 => (simp only [Hg]; rfl)
              case hq70 => exact fun _ _ _ h => h
              case hw70 => rfl
              case hy70 => (intro w hSw; (try dsimp only at hSw); go_simp <;> with_reducible rfl)
              simp only [Hp]
              refine wpAnyH_take (i := 12) (oi := ?oi71) (v := ?vv71) ?hi71 (by kernel_rfl) (by kernel_rfl) (by kernel_rfl) ?hq71 (Or.inl ⟨?hw71, ?hy71⟩) (by assumption) ?rs71
              case hi71 => (simp only [Hg]; rfl)
              case hq71 => exact fun _ _ _ h => h
              case hw71 => rfl
              case hy71 => (intro w hSw; (try dsimp only at hSw); go_simp <;> with_reducible rfl)
              simp only [Hp]
              refine wpAnyH_take (i := 13) (oi := ?oi72) (v := ?vv72) ?hi72 (by kernel_rfl) (by kernel_rfl) (by kernel_rfl) ?hq72 (Or.inl ⟨?hw72, ?hy72⟩) (by assumption) ?rs72
              case hi72 => (simp only [Hg]; rfl)
              case hq72 => exact fun _ _ _ h => h
              case hw72 => rfl
              case hy72 => (intro w hSw; (try dsimp only at hSw); go_simp <;> with_reducible rfl)
              simp only [Hp]
              refine wpAnyH_ready (rs := [14]) (by kernel_rfl) (by simp) (AllReadyH.cons (o := ?oi73) ?hi73 (fun K hK => ?rs73) AllReadyH.nil)
              case hi73 => (simp only [Hg]; rfl)
              go_simp
              (go_at_call 49; (with_reducible refine (HF5.out _ T2.out).mono ?_); rintro e w3 ⟨rfl, hb3⟩; have HB3 := Lib.hid hb3)
              refine hK.out _ _ ?hs73 (fun hHeld => ?rt73)
              case hs73 => exact ⟨(hb3.cell (p := ⟨w.heap.size, 3, none⟩) s3).trans ((hb2.cell (p := ⟨w.heap.size, 3, none⟩) s2).trans c3), (hb3.cell (p := ⟨w.heap.size, 5, none⟩) s3).trans ((hb2.cell (p := ⟨w.heap.size, 5, none⟩) s2).trans c5), (hb3.cell (p := ⟨w.heap.size, 6, none⟩) s3).trans ((hb2.cell (p := ⟨w.heap.size, 6, none⟩) s2).trans c6), (hb3.cell (p := ⟨w.heap.size, 7, none⟩) s3).trans ((hb2.cell (p := ⟨w.heap.size, 7, none⟩) s2).trans c7)⟩
              clear hK K
              try simp only [Hp]
              refine wpAnyH_take (i := 15) (oi := ?oi74) (v := ?vv74) ?hi74 (by kernel_rfl) (by kernel_rfl) (by kernel_rfl) ?hq74 (Or.inl ⟨?hw74, ?hy74⟩) (by assumption) ?rs74
              case hi74 => (simp only [Hg]; rfl)
              case hq74 => exact fun _ _ _ h => h
              case hw74 => rfl
              case hy74 => (intro w hSw; (try dsimp only at hSw); go_simp <;> with_reducible rfl)
              simp only [Hp]
              refine wpAnyH_take (i := 16) (oi := ?oi75) (v := ?vv75) ?hi75 (by kernel_rfl) (by kernel_rfl) (by kernel_rfl) ?hq75 (Or.inl ⟨?hw75, ?hy75⟩) (by assumption) ?rs75
              case hi75 => (simp only [Hg]; rfl)
              case hq75 => exact fun _ _ _ h => h
              case hw75 => rfl
              case hy75 => (intro w hSw; (try dsimp only at hSw); go_simp <;> with_reducible rfl)
              simp only [Hp]
              refine wpAnyH_take (i := 17) (oi := ?oi76) (v := ?vv76) ?hi76 (by kernel_rfl) (by kernel_rfl) (by kernel_rfl) ?hq76 (Or.inl ⟨?hw76, ?hy76⟩) (by assumption) ?rs76
              case hi76 => (simp only [Hg]; rfl)
              case hq76 => exact fun _ _ _ h => h
              case hw76 => rfl
              case hy76 => (intro w hSw; (try dsimp only at hSw); go_simp <;> with_reducible rfl)
              simp only [Hp]
              refine wpAnyH_done (by kernel_rfl) ?_ _
              go_wp2_with fail
              go_ret
              exact ⟨ret_int Hr.out.symm, HB.out.drew.trans ((HB2.out.trans (HB3.out.mono HB2.out.size)).mono (Nat.le_of_lt hsz))⟩
            · have d5 : ((x.week : Int) != (f5 : Int)) = true := by rw [bne_iff_ne]; omega
              have Ew := Lib.hid ew
              clear ew
              have Hr : Hid (r = 16) := Lib.hid (by rw [Hch.out]; exact if_neg fun h => Ew.out ((Hiff.out.1 h).2.2 Hw.out))
              go_wp2_with fail
              refine wp_region_held_drew (S := (fun w' => w'.cell? ⟨w.heap.size, 3, none⟩ = some (.int .u64 x.day) ∧ w'.cell? ⟨w.heap.size, 5, none⟩ = some (.int .u64 x.week) ∧ w'.cell? ⟨w.heap.size, 6, none⟩ = some (.bool true) ∧ w'.cell? ⟨w.heap.size, 7, none⟩ = some (.bool true))) (by kernel_rfl) ?hs77 (fun hHeld => ?rs77)
              case hs77 => exact ⟨c3, c5, c6, c7⟩
              refine wpAnyH_take (i := 0) (oi := ?oi78) (v := ?vv78) ?hi78 (by kernel_rfl) (by kernel_rfl) (by kernel_rfl) ?hq78 (Or.inl ⟨?hw78, ?hy78⟩) (by assumption) ?rs78
              case hi78 => (simp only [Hg]; rfl)
              case hq78 => exact fun _ _ _ h => h
              case hw78 => rfl
              case hy78 => (intro w hSw; (try dsimp only at hSw); go_simp <;> with_reducible rfl)
              simp only [Hp]
              refine wpAnyH_take (i := 1) (oi := ?oi79) (v := ?vv79) ?hi79 (by kernel_rfl) (by kernel_rfl) (by kernel_rfl) ?hq79 (Or.inl ⟨?hw79, ?hy79⟩) (by assumption) ?rs79
              case hi79 => (simp only [Hg]; rfl)
              case hq79 => exact fun _ _ _ h => h
              case hw79 => rfl
              case hy79 => (intro w hSw; (try dsimp only at hSw); go_simp <;> with_reducible rfl)
              simp only [Hp]
              refine wpAnyH_take (i := 2) (oi := ?oi80) (v := ?vv80) ?hi80 (by kernel_rfl) (by kernel_rfl) (by kernel_rfl) ?hq80 (Or.inl ⟨?hw80, ?hy80⟩) (by assumption) ?rs80
              case hi80 => (simp only [Hg]; rfl)
              case hq80 => exact fun _ _ _ h => h
              case hw80 => rfl
              case hy80 => (intro w hSw; (try dsimp only at hSw); go_simp <;> with_reducible rfl)
              simp only [Hp]
              refine wpAnyH_take (i := 3) (oi := ?oi81) (v := ?vv81) ?hi81 (by kernel_rfl) (by kernel_rfl) (by kernel_rfl) ?hq81 (Or.inl ⟨?hw81, ?hy81⟩) (by assumption) ?rs81
              case hi81 => (simp only [Hg]; rfl)
              case hq81 => exact fun _ _ _ h => h
              case hw81 => rfl
              case hy81 => (intro w hSw; (try dsimp only at hSw); go_simp <;> with_reducible rfl)
              simp only [Hp]
              refine wpAnyH_take (i := 4) (oi := ?oi82) (v := ?vv82) ?hi82 (by kernel_rfl) (by kernel_rfl) (by kernel_rfl) ?hq82 (Or.inl ⟨?hw82, ?hy82⟩) (by assumption) ?rs82
              case hi82 => (simp only [Hg]; rfl)
              case hq82 => exact fun _ _ _ h => h
              case hw82 => rfl
              case hy82 => (intro w hSw; (try dsimp only at hSw); go_simp <;> with_reducible rfl)
              simp only [Hp]
              refine wpAnyH_ready (rs := [5]) (by kernel_rfl) (by simp) (AllReadyH.cons (o := ?oi83) ?hi83 (fun K hK => ?rs83) AllReadyH.nil)
              case hi83 => (simp only [Hg]; rfl)
              go_simp
              (go_at_call 49; (with_reducible refine (HF3.out _ TD.out).mono ?_); rintro e w2 ⟨rfl, hb2⟩; have HB2 := Lib.hid hb2; have s3 : w.heap.size < w2.heap.size := Nat.lt_of_lt_of_le hsz hb2.size; have T2 := Lib.hid (TD.out.grow hb2))
              refine hK.out _ _ ?hs83 (fun hHeld => ?rt83)
              case hs83 => exact ⟨(hb2.cell (p := ⟨w.heap.size, 3, none⟩) s2).trans c3, (hb2.cell (p := ⟨w.heap.size, 5, none⟩) s2).trans c5, (hb2.cell (p := ⟨w.heap.size, 6, none⟩) s2).trans c6, (hb2.cell (p := ⟨w.heap.size, 7, none⟩) s2).trans c7⟩
              clear hK K
              try simp only [Hp]
              refine wpAnyH_take (i := 6) (oi := ?oi84) (v := ?vv84) ?hi84 (by kernel_rfl) (by kernel_rfl) (by kernel_rfl) ?hq84 (Or.inl ⟨?hw84, ?hy84⟩) (by assumption) ?rs84
              case hi84 => (simp only [Hg]; rfl)
              case hq84 => exact fun _ _ _ h => h
              case hw84 => rfl
              case hy84 => (intro w hSw; (try dsimp only at hSw); go_simp <;> with_reducible rfl)
              simp only [Hp]
              refine wpAnyH_take (i := 7) (oi := ?oi85) (v := ?vv85) ?hi85 (by kernel_rfl) (by kernel_rfl) (by kernel_rfl) ?hq85 (Or.inl ⟨?hw85, ?hy85⟩) (by assumption) ?rs85
              case hi85 => (simp only [Hg]; rfl)
              case hq85 => exact fun _ _ _ h => h
              case hw85 => rfl
              case hy85 => (intro w hSw; (try dsimp only at hSw); go_simp <;> with_reducible rfl)
              simp only [Hp]
              refine wpAnyH_take (i := 8) (oi := ?oi86) (v := ?vv86) ?hi86 (by kernel_rfl) (by kernel_rfl) (by kernel_rfl) ?hq86 (Or.inl ⟨?hw86, ?hy86⟩) (by assumption) ?rs86
              case hi86 => (simp only [Hg]; rfl)
              case hq86 => exact fun _ _ _ h => h
              case hw86 => rfl
              case hy86 => (intro w hSw; (try dsimp only at hSw); go_simp <;> with_reducible rfl)
              simp only [Hp]
              refine wpAnyH_take (i := 9) (oi := ?oi87) (v := ?vv87) ?hi87 (by kernel_rfl) (by kernel_rfl) (by kernel_rfl) ?hq87 (Or.inl ⟨?hw87, ?hy87⟩) (by assumption) ?rs87
              case hi87 => (simp only [Hg]; rfl)
              case hq87 => exact fun _ _ _ h => h
              case hw87 => rfl
              case hy87 => (intro w hSw; (try dsimp only at hSw); go_simp <;> with_reducible rfl)
              simp only [Hp]
              refine wpAnyH_take (i := 10) (oi := ?oi88) (v := ?vv88) ?hi88 (by kernel_rfl) (by kernel_rfl) (by kernel_rfl) ?hq88 (Or.inl ⟨?hw88, ?hy88⟩) (by assumption) ?rs88
              case hi88 => (simp only [Hg]; rfl)
              case hq88 => exact fun _ _ _ h => h
              case hw88 => rfl
              case hy88 => (intro w hSw; (try dsimp only at hSw); go_simp <;> with_reducible rfl)
              simp only [Hp]
              refine wpAnyH_take (i := 11) (oi := ?oi89) (v := ?vv89) ?hi89 (by kernel_rfl) (by kernel_rfl) (by kernel_rfl) ?hq89 (Or.inl ⟨?hw89, ?hy89⟩) (by assumption) ?rs89
              case hi89 => (simp only [Hg]; rfl)
              case hq89 => exact fun _ _ _ h => h
              case hw89 => rfl
              case hy89 => (intro w hSw; (try dsimp only at hSw); go_simp <;> with_reducible rfl)
              simp only [Hp]
              refine wpAnyH_take (i := 12) (oi := ?oi90) (v := ?vv90) ?hi90 (by kernel_rfl) (by kernel_rfl) (by kernel_rfl) ?hq90 (Or.inl ⟨?hw90, ?hy90⟩) (by assumption) ?rs90
              case hi90 => (simp only [Hg]; rfl)
              case hq90 => exact fun _ _ _ h => h
              case hw90 => rfl
              case hy90 => (intro w hSw; (try dsimp only at hSw); go_simp <;> with_reducible rfl)
              simp only [Hp]
              refine wpAnyH_take (i := 13) (oi := ?oi91) (v := ?vv91) ?hi91 (by kernel_rfl) (by kernel_rfl) (by kernel_rfl) ?hq91 (Or.inl ⟨?hw91, ?hy91⟩) (by assumption) ?rs91
              case hi91 => (simp only [Hg]; rfl)
              case hq91 => exact fun _ _ _ h => h
              case hw91 => rfl
              case hy91 => (intro w hSw; (try dsimp only at hSw); go_simp <;> with_reducible rfl)
              simp only [Hp]
              refine wpAnyH_ready (rs := [14]) (by kernel_rfl) (by simp) (AllReadyH.cons (o := ?oi92) ?hi92 (fun K hK => ?rs92) AllReadyH.nil)
              case hi92 => (simp only [Hg]; rfl)
              go_simp
              (go_at_call 49; (with_reducible refine (HF5.out _ T2.out).mono ?_); rintro e w3 ⟨rfl, hb3⟩; have HB3 := Lib.hid hb3)
              refine hK.out _ _ ?hs92 (fun hHeld => ?rt92)
              case hs92 => exact ⟨(hb3.cell (p := ⟨w.heap.size, 3, none⟩) s3).trans ((hb2.cell (p := ⟨w.heap.size, 3, none⟩) s2).trans c3), (hb3.cell (p := ⟨w.heap.size, 5, none⟩) s3).trans ((hb2.cell (p := ⟨w.heap.size, 5, none⟩) s2).trans c5), (hb3.cell (p := ⟨w.heap.size, 6, none⟩) s3).trans ((hb2.cell (p := ⟨w.heap.size, 6, none⟩) s2).trans c6), (hb3.cell (p := ⟨w.heap.size, 7, none⟩) s3).trans ((hb2.cell (p := ⟨w.heap.size, 7, none⟩) s2).trans c7)⟩
              clear hK K
              try simp only [Hp]
              refine wpAnyH_take (i := 15) (oi := ?oi93) (v := ?vv93) ?hi93 (by kernel_rfl) (by kernel_rfl) (by kernel_rfl) ?hq93 (Or.inl ⟨?hw93, ?hy93⟩) (by assumption) ?rs93
              case hi93 => (simp only [Hg]; rfl)
              case hq93 => exact fun _ _ _ h => h
              case hw93 => rfl
              case hy93 => (intro w hSw; (try dsimp only at hSw); go_simp <;> with_reducible rfl)
              simp only [Hp]
              refine wpAnyH_take (i := 16) (oi := ?oi94) (v := ?vv94) ?hi94 (by kernel_rfl) (by kernel_rfl) (by kernel_rfl) ?hq94 (Or.inl ⟨?hw94, ?hy94⟩) (by assumption) ?rs94
              case hi94 => (simp only [Hg]; rfl)
              case hq94 => exact fun _ _ _ h => h
              case hw94 => rfl
              case hy94 => (intro w hSw; (try dsimp only at hSw); go_simp <;> with_reducible rfl)
              simp only [Hp]
              refine wpAnyH_take (i := 17) (oi := ?oi95) (v := ?vv95) ?hi95 (by kernel_rfl) (by kernel_rfl) (by kernel_rfl) ?hq95 (Or.inl ⟨?hw95, ?hy95⟩) (by assumption) ?rs95
              case hi95 => (simp only [Hg]; rfl)
              case hq95 => exact fun _ _ _ h => h
              case hw95 => rfl
              case hy95 => (intro w hSw; (try dsimp only at hSw); go_simp <;> with_reducible rfl)
              simp only [Hp]
              refine wpAnyH_done (by kernel_rfl) ?_ _
              go_wp2_with fail
              go_ret
              exact ⟨ret_int Hr.out.symm, HB.out.drew.trans ((HB2.out.trans (HB3.out.mono HB2.out.size)).mono (Nat.le_of_lt hsz))⟩
        · have d3 : ((x.day : Int) != (f3 : Int)) = true := by rw [bne_iff_ne]; omega
          have Ed := Lib.hid ed
          clear ed
          have Hr : Hid (r = 16) := Lib.hid (by rw [Hch.out]; exact if_neg fun h => Ed.out ((Hiff.out.1 h).2.1 Hd.out))
          go_wp2_with fail
          refine wp_region_held_drew (S := (fun w' => w'.cell? ⟨w.heap.size, 3, none⟩ = some (.int .u64 x.day) ∧ w'.cell? ⟨w.heap.size, 5, none⟩ = some (.int .u64 x.week) ∧ w'.cell? ⟨w.heap.size, 6, none⟩ = some (.bool true) ∧ w'.cell? ⟨w.heap.size, 7, none⟩ = some (.bool x.anyWeek))) (by kernel_rfl) ?hs96 (fun hHeld => ?rs96)
          case hs96 => exact ⟨c3, c5, c6, c7⟩
          refine wpAnyH_take (i := 0) (oi := ?oi97) (v := ?vv97) ?hi97 (by kernel_rfl) (by kernel_rfl) (by kernel_rfl) ?hq97 (Or.inl ⟨?hw97, ?hy97⟩) (by assumption) ?rs97
          case hi97 => (simp only [Hg]; rfl)
          case hq97 => exact fun _ _ _ h => h
          case hw97 => rfl
          case hy97 => (intro w hSw; (try dsimp only at hSw); go_simp <;> with_reducible rfl)
          simp only [Hp]
          refine wpAnyH_take (i := 1) (oi := ?oi98) (v := ?vv98) ?hi98 (by kernel_rfl) (by kernel_rfl) (by kernel_rfl) ?hq98 (Or.inl ⟨?hw98, ?hy98⟩) (by assumption) ?rs98
          case hi98 => (simp only [Hg]; rfl)
          case hq98 => exact fun _ _ _ h => h
          case hw98 => rfl
          case hy98 => (intro w hSw; (try dsimp only at hSw); go_simp <;> with_reducible rfl)
          simp only [Hp]
          refine wpAnyH_take (i := 2) (oi := ?oi99) (v := ?vv99) ?hi99 (by kernel_rfl) (by kernel_rfl) (by kernel_rfl) ?hq99 (Or.inl ⟨?hw99, ?hy99⟩) (by assumption) ?rs99
          case hi99 => (simp only [Hg]; rfl)
          case hq99 => exact fun _ _ _ h => h
          case hw99 => rfl
          case hy99 => (intro w hSw; (try dsimp only at hSw); go_simp <;> with_reducible rfl)
          simp only [Hp]
          refine wpAnyH_take (i := 3) (oi := ?oi100) (v := ?vv100) ?hi100 (by kernel_rfl) (by kernel_rfl) (by kernel_rfl) ?hq100 (Or.inl ⟨?hw100, ?hy100⟩) (by assumption) ?rs100
          case hi100 => (simp only [Hg]; rfl)
          case hq100 => exact fun _ _ _ h => h
          case hw100 => rfl
          case hy100 => (intro w hSw; (try dsimp only at hSw); go_simp <;> with_reducible rfl)
          simp only [Hp]
          refine wpAnyH_take (i := 4) (oi := ?oi101) (v := ?vv101) ?hi101 (by kernel_rfl) (by kernel_rfl) (by kernel_rfl) ?hq101 (Or.inl ⟨?hw101, ?hy101⟩) (by assumption) ?rs101
          case hi101 => (simp only [Hg]; rfl)
          case hq101 => exact fun _ _ _ h => h
          case hw101 => rfl
          case hy101 => (intro w hSw; (try dsimp only at hSw); go_simp <;> with_reducible rfl)
          simp only [Hp]
          refine wpAnyH_ready (rs := [5]) (by kernel_rfl) (by simp) (AllReadyH.cons (o := ?oi102) ?hi102 (fun K hK => ?rs102) AllReadyH.nil)
          case hi102 => (simp only [Hg]; rfl)
          go_simp
          (go_at_call 49; (with_reducible refine (HF3.out _ TD.out).mono ?_); rintro e w2 ⟨rfl, hb2⟩; have HB2 := Lib.hid hb2; have s3 : w.heap.size < w2.heap.size := Nat.lt_of_lt_of_le hsz hb2.size; have T2 := Lib.hid (TD.out.grow hb2))
          refine hK.out _ _ ?hs102 (fun hHeld => ?rt102)
          case hs102 => exact ⟨(hb2.cell (p := ⟨w.heap.size, 3, none⟩) s2).trans c3, (hb2.cell (p := ⟨w.heap.size, 5, none⟩) s2).trans c5, (hb2.cell (p := ⟨w.heap.size, 6, none⟩) s2).trans c6, (hb2.cell (p := ⟨w.heap.size, 7, none⟩) s2).trans c7⟩
          clear hK K
          try simp only [Hp]
          refine wpAnyH_take (i := 6) (oi := ?oi103) (v := ?vv103) ?hi103 (by kernel_rfl) (by kernel_rfl) (by kernel_rfl) ?hq103 (Or.inl ⟨?hw103, ?hy103⟩) (by assumption) ?rs103
          case hi103 => (simp only [Hg]; rfl)
          case hq103 => exact fun _ _ _ h => h
          case hw103 => rfl
          case hy103 => (intro w hSw; (try dsimp only at hSw); go_simp <;> with_reducible rfl)
          simp only [Hp]
          refine wpAnyH_take (i := 7) (oi := ?oi104) (v := ?vv104) ?hi104 (by kernel_rfl) (by kernel_rfl) (by kernel_rfl) ?hq104 (Or.inl ⟨?hw104, ?hy104⟩) (by assumption) ?rs104
          case hi104 => (simp only [Hg]; rfl)
          case hq104 => exact fun _ _ _ h => h
          case hw104 => rfl
          case hy104 => (intro w hSw; (try dsimp only at hSw); go_simp <;> with_reducible rfl)
          simp only [Hp]
          refine wpAnyH_take (i := 8) (oi := ?oi105) (v := ?vv105) ?hi105 (by kernel_rfl) (by kernel_rfl) (by kernel_rfl) ?hq105 (Or.inl ⟨?hw105, ?hy105⟩) (by assumption) ?rs105
          case hi105 => (simp only [Hg]; rfl)
          case hq105 => exact fun _ _ _ h => h
          case hw105 => rfl
          case hy105 => (intro w hSw; (try dsimp only at hSw); go_simp <;> with_reducible rfl)
          simp only [Hp]
          refine wpAnyH_take (i := 9) (oi := ?oi106) (v := undef) ?hi106 (by kernel_rfl) (by kernel_rfl) (by kernel_rfl) ?hq106 (Or.inr ⟨?hw106, rfl⟩) (by assumption) ?rs106
          case hi106 => (simp only [Hg]; rfl)
          case hq106 => exact fun _ _ _ h => h
          case hw106 => rfl
          simp only [Hp]
          refine wpAnyH_take (i := 10) (oi := ?oi107) (v := undef) ?hi107 (by kernel_rfl) (by kernel_rfl) (by kernel_rfl) ?hq107 (Or.inr ⟨?hw107, rfl⟩) (by assumption) ?rs107
          case hi107 => (simp only [Hg]; rfl)
          case hq107 => exact fun _ _ _ h => h
          case hw107 => rfl
          simp only [Hp]
          refine wpAnyH_take (i := 11) (oi := ?oi108) (v := undef) ?hi108 (by kernel_rfl) (by kernel_rfl) (by kernel_rfl) ?hq108 (Or.inr ⟨?hw108, rfl⟩) (by assumption) ?rs108
          case hi108 => (simp only [Hg]; rfl)
          case hq108 => exact fun _ _ _ h => h
          case hw108 => rfl
          simp only [Hp]
          refine wpAnyH_take (i := 12) (oi := ?oi109) (v := undef) ?hi109 (by kernel_rfl) (by kernel_rfl) (by kernel_rfl) ?hq109 (Or.inr ⟨?hw109, rfl⟩) (by assumption) ?rs109
          case hi109 => (simp only [Hg]; rfl)
          case hq109 => exact fun _ _ _ h => h
          case hw109 => rfl
          simp only [Hp]
          refine wpAnyH_take (i := 13) (oi := ?oi110) (v := undef) ?hi110 (by kernel_rfl) (by kernel_rfl) (by kernel_rfl) ?hq110 (Or.inr ⟨?hw110, rfl⟩) (by assumption) ?rs110
          case hi110 => (simp only [Hg]; rfl)
          case hq110 => exact fun _ _ _ h => h
          case hw110 => rfl
          simp only [Hp]
          refine wpAnyH_ready (rs := [14]) (by kernel_rfl) (by simp) (AllReadyH.cons (o := ?oi111) ?hi111 (fun K hK => ?rs111) AllReadyH.nil)
          case hi111 => (simp only [Hg]; rfl)
          go_simp
          refine hK.out _ _ ?hs111 (fun hHeld => ?rt111)
          case hs111 => assumption
          clear hK K
          try simp only [Hp]
          refine wpAnyH_take (i := 15) (oi := ?oi112) (v := undef) ?hi112 (by kernel_rfl) (by kernel_rfl) (by kernel_rfl) ?hq112 (Or.inr ⟨?hw112, rfl⟩) (by assumption) ?rs112
          case hi112 => (simp only [Hg]; rfl)
          case hq112 => exact fun _ _ _ h => h
          case hw112 => rfl
          simp only [Hp]
          refine wpAnyH_take (i := 16) (oi := ?oi113) (v := undef) ?hi113 (by kernel_rfl) (by kernel_rfl) (by kernel_rfl) ?hq113 (Or.inr ⟨?hw113, rfl⟩) (by assumption) ?rs113
          case hi113 => (simp only [Hg]; rfl)
          case hq113 => exact fun _ _ _ h => h
          case hw113 => rfl
          simp only [Hp]
          refine wpAnyH_take (i := 17) (oi := ?oi114) (v := ?vv114) ?hi114 (by kernel_rfl) (by kernel_rfl) (by kernel_rfl) ?hq114 (Or.inl ⟨?hw114, ?hy114⟩) (by assumption) ?rs114
          case hi114 => (simp only [Hg]; rfl)
          case hq114 => exact fun _ _ _ h => h
          case hw114 => rfl
          case hy114 => (intro w hSw; (try dsimp only at hSw); go_simp <;> with_reducible rfl)
          simp only [Hp]
          refine wpAnyH_done (by kernel_rfl) ?_ _
          go_wp2_with fail
          go_ret
          exact ⟨ret_int Hr.out.symm, HB.out.drew.trans (HB2.out.mono (Nat.le_of_lt hsz))⟩
end Go.Proofs.YtjnlgaeedcklaaaGreatDoor
