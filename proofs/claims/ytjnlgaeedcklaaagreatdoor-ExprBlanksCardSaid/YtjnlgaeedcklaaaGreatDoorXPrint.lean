/-
  The program's Print of an expression.
-/
import Derived.Test.YtjnlgaeedcklaaaGreatDoorXCheck
import Derived.Deep.AppendLies
import Derived.Maps.AppendAt
set_option linter.unusedVariables false
set_option linter.unusedSimpArgs false
namespace Go.Proofs.YtjnlgaeedcklaaaGreatDoor
open Go.RowKit

/-! ### The texts of the fields, one by one -/
def pcX (x : Xs.Ex) (i : Nat) : List (List UInt8) := if i = 0 ∧ setX x 0 = 1 then [] else [Xs.txt KX x i (setX x i)]
def txX (x : Xs.Ex) (k : Nat) : List (List UInt8) := (List.range k).flatMap (pcX x)
theorem txX_succ (x : Xs.Ex) (k : Nat) : txX x (k + 1) = txX x k ++ pcX x k := by unfold txX; rw [List.range_succ, List.flatMap_append]; simp
theorem txX_six (x : Xs.Ex) : txX x 6 = Xs.texts KX x := by
  rw [Xs.texts_eq]
  have h : ∀ k, txX x (k + 1) = txX x k ++ pcX x k := txX_succ x
  rw [h 5, h 4, h 3, h 2, h 1, h 0]
  simp only [pcX, setX, Xs.Ex.sets, txX]
  by_cases h1 : x.second = 1 <;> simp [h1]
theorem txX_le (x : Xs.Ex) : ∀ k, (txX x k).length ≤ k := by
  intro k
  induction k with
  | zero => exact Nat.le_refl _
  | succ k ih =>
    rw [txX_succ, List.length_append]
    have : (pcX x k).length ≤ 1 := by unfold pcX; split <;> simp
    omega
theorem printB_len (k : Fs.Kind) (s : Nat) (star : Bool) : (Fs.printB k s star).1.length ≤ 600 := by
  unfold Fs.printB
  split
  · simp
  · split
    · simp
    · have h := joinN_len (Fs.runsOf s) _ (Nat.le_refl _)
      rw [joinN_all] at h
      have := runs_len s
      show (Fs.joinB ((Fs.runsOf s).map Fs.runText)).length ≤ 600
      omega
theorem txt_len (x : Xs.Ex) (i s : Nat) : (Xs.txt KX x i s).length ≤ 600 := printB_len _ _ _
theorem texts_short (x : Xs.Ex) : ∀ t ∈ Xs.texts KX x, t.length ≤ 600 := by
  intro t ht
  rw [Xs.texts_eq] at ht
  have h := txt_len x
  split at ht <;> simp at ht
  · rcases ht with rfl | rfl | rfl | rfl | rfl <;> exact h _ _
  · rcases ht with rfl | rfl | rfl | rfl | rfl | rfl <;> exact h _ _
theorem joinS_len : ∀ ts : List (List UInt8), (∀ t ∈ ts, t.length ≤ 600) → (Xs.joinS ts).length ≤ 601 * ts.length := by
  intro ts
  induction ts with
  | nil => intro _; simp [Xs.joinS]
  | cons t ts ih =>
    intro h
    have h1 := h t (by simp)
    have h2 := ih fun u hu => h u (List.mem_cons_of_mem _ hu)
    rcases ts with _ | ⟨u, ts⟩
    · simp only [Xs.joinS, List.length_cons, List.length_nil]; omega
    · have e : Xs.joinS (t :: u :: ts) = t ++ 32 :: Xs.joinS (u :: ts) := rfl
      rw [e, List.length_append, List.length_cons]
      simp only [List.length_cons] at h2 ⊢
      omega
theorem texts_join_len (x : Xs.Ex) : (Xs.joinS (Xs.texts KX x)).length ≤ 3606 := by
  have h1 := joinS_len _ (texts_short x)
  have h2 := Xs.texts_len KX x
  split at h2 <;> omega
theorem joinS_eq (l : List (List UInt8)) : Lib.join l [32] = Xs.joinS l := by
  induction l with
  | nil => rfl
  | cons a l ih =>
    by_cases hl : l = []
    · subst hl; rw [Lib.join_one]; rfl
    · obtain ⟨b, l, rfl⟩ := List.exists_cons_of_ne_nil hl
      have e : Xs.joinS (a :: b :: l) = a ++ 32 :: Xs.joinS (b :: l) := rfl
      rw [e, ← ih]
      simp [Lib.join, List.intercalate]

theorem printX_ok {x : Xs.Ex} (h : Xs.checkB KX x = true) : Xs.printX KX x = (Xs.joinS (Xs.texts KX x), 0) := by rw [Xs.printX, if_pos h]
theorem printX_bad {x : Xs.Ex} (h : Xs.checkB KX x = false) : Xs.printX KX x = ([], 16) := by rw [Xs.printX, if_neg (by rw [h]; simp)]

set_option maxRecDepth 100000 in
set_option maxHeartbeats 16000000 in
theorem expr_Print (x : Xs.Ex) (w : World) (hx : SmallX x) (hT : Tabs w) :
    Calls Tryz.prog 19 #[exV x.second x.minute x.hour x.day x.month x.week x.anyDay x.anyWeek] w fun e w' => e = .returned (retPrint (Xs.printX KX x)) ∧ Below w.heap.size w w' := by
  have HT := Lib.hid hT
  have HCk : Hid (∀ W, Tabs W → Calls Tryz.prog 23 #[exV x.second x.minute x.hour x.day x.month x.week x.anyDay x.anyWeek] W fun e w' => e = .returned (.int .i64 (chk x)) ∧ Below W.heap.size W w') := Lib.hid fun W h => expr_Check x W hx h
  cases hc : Xs.checkB KX x with
  | false =>
    have hch : chk x = 16 := by unfold chk; rw [hc]; rfl
    rw [printX_bad hc]
    rw [hch] at HCk
    clear hc hT hx
    go_enter Tryz.func19, Tryz.ntmps19
    go_wp2_with (go_at_call 23; (with_reducible refine (HCk.out _ (HT.out.alloc _)).mono ?_); rintro e w1 ⟨rfl, hb1⟩)
    go_ret2
    exact ⟨rfl, ((Below.refl _ _).alloc (Nat.le_refl _) _).trans (hb1.mono (by simp))⟩
  | true =>
    have hch : chk x = 0 := by unfold chk; rw [hc]; rfl
    have htx := fun i s hi hs => Xs.txt_ok kinds_ok hc (i := i) (s := s) hi hs
    rw [printX_ok hc]
    rw [hch] at HCk
    have Htx := Lib.hid htx
    have hset := hx.set
    have hcell := setX_cell x
    have Hset := Lib.hid hset
    have Hcell := Lib.hid hcell
    obtain ⟨i0, hi0, hz0, hz1, hz2⟩ := info_parts info_str
    clear hc hT hx htx hset hcell hch
    go_enter Tryz.func19, Tryz.ntmps19
    go_wp2_with (first
      | (go_at_call 23; (with_reducible refine (HCk.out _ (HT.out.alloc _)).mono ?_); rintro e w1 ⟨rfl, hb1⟩; obtain ⟨hc1, hf1⟩ := bcell hb1)
      | (go_at_call 48; (with_reducible refine (expr_fields _ _).mono ?_); rintro e w2 ⟨rfl, hb2⟩; obtain ⟨hc2, hf2⟩ := bcell hb2))
    have hs1 : w.heap.size < w1.heap.size := by have := hb1.size; simp at this; omega
    have HB2 : Hid (Below w.heap.size w w2) := Lib.hid ((((Below.refl _ _).alloc (Nat.le_refl _) _).trans (hb1.mono (by simp))).trans (hb2.mono (Nat.le_of_lt hs1)))
    have HX2 : Hid (Blk w2 w.heap.size 25 (exC x.second x.minute x.hour x.day x.month x.week x.anyDay x.anyWeek)) := Lib.hid (((Blk.new w _ _).below hb1 (by simp)).below hb2 hs1)
    clear hc1 hf1 hb1 hc2 hf2 hb2
    go_loopw [5, 17] (fun lv i wr => ∃ k : Nat, k ≤ 6 ∧ i = .int .i64 k ∧ wr.ownsRow (w.heap.size + 1) 9 1 lv (txX x k).length ((txX x k).map fun t => Value.string (strOf t)) ∧ Below w.heap.size w wr ∧ Blk wr w.heap.size 25 (exC x.second x.minute x.hour x.day x.month x.week x.anyDay x.anyWeek)) (fun _ i _ => 6 - (intOf i).toNat)
    case atStart => exact ⟨0, Nat.zero_le _, rfl, World.ownsRow_nil _ _ _ _, HB2.out, HX2.out⟩
    case round =>
      obtain ⟨k, hk6, rfl, hown, hb, hX⟩ := hrel
      have Hown := Lib.hid hown
      have HB := Lib.hid hb
      have HX := Lib.hid hX
      have hsz := hX.lt
      have hle := txX_le x k
      clear hown hb hX
      by_cases hk : k < 6
      · have hck : wr.cell? ⟨w.heap.size, k, none⟩ = some (.int .u64 (setX x k)) := (HX.out.cell k).trans (Hcell.out k hk)
        have hsl := Hset.out k hk
        have HF : Hid (∀ W, Tabs W → Calls Tryz.prog 49 #[.int .i64 k] W fun e w' => e = .returned (.int .u64 (Fs.full (KX k))) ∧ Below W.heap.size W w') := Lib.hid fun W hT => expr_full k hk W hT
        have hidx : ∀ W, (Instr.index 102 (ptrs w.heap.size) (.int .i64 (k : Int))).run Tryz.prog W = .ok (.pointer (some ⟨w.heap.size, k, none⟩)) W := fun W => index_ptrs w.heap.size W k hk
        have htk := Htx.out k _ hk (setX_get x k hk)
        have hp1 := htk.1
        have hsucc := txX_succ x k
        have hpc : pcX x k = if k = 0 ∧ setX x 0 = 1 then [] else [Xs.txt KX x k (setX x k)] := rfl
        have hst : Xs.starOf KX x k (setX x k) = if k = 3 then x.anyDay else if k = 5 then x.anyWeek else decide (setX x k = Fs.full (KX k)) := rfl
        have hPr : ∀ W g lo hi A c l week, KxAt W g k lo hi A c l week → Tabs W → Calls Tryz.prog 50 #[.agg #[.int .i64 lo, .int .i64 hi, .slice A l.length c, .bool week], .int .u64 (setX x k), .bool (Xs.starOf KX x k (setX x k))] W fun e w' => e = .returned (.tuple #[.string (strOf (Xs.txt KX x k (setX x k))), .int .i64 0]) ∧ Below W.heap.size W w' := fun W g lo hi A c l week h hT => by
          have := kx_Print h (setX x k) (Xs.starOf KX x k (setX x k)) hsl hT
          rw [hp1] at this
          exact this
        have TD : Hid (Tabs wr.drew) := Lib.hid (HT.out.grow HB.out.drew)
        have HPr := Lib.hid hPr
        have Hst := Lib.hid hst
        have Hpc := Lib.hid hpc
        have Hsucc := Lib.hid hsucc
        have h00 : k = 0 → setX x k = setX x 0 := fun h => by rw [h]
        clear htk hp1 hPr hst hpc hsucc
        generalize Xs.starOf KX x k (setX x k) = st at HPr Hst
        generalize Xs.txt KX x k (setX x k) = T0 at *
        generalize setX x 0 = s0 at *
        generalize setX x k = s at *
        generalize Fs.full (KX k) = fu at *
        by_cases hz : k = 0
        · have d0 : ((k : Int) == 0) = true := by rw [beq_iff_eq]; omega
          have d3 : ((k : Int) == 3) = false := by rw [beq_eq_false_iff_ne]; omega
          have d5 : ((k : Int) == 5) = false := by rw [beq_eq_false_iff_ne]; omega
          have hst' : st = decide (s = fu) := by rw [Hst.out, if_neg (by omega), if_neg (by omega)]
          have Hst2 := Lib.hid hst'
          have h0s := h00 hz
          by_cases hs1 : s = 1
          · have hcase : k = 0 ∧ s0 = 1 := ⟨hz, by rw [← h0s]; exact hs1⟩
            have d1 : ((s : Int) == 1) = true := by rw [beq_iff_eq]; omega
            have Hcase := Lib.hid hcase
            clear hst' h0s hs1 h00 hz hcase
            have hse : ((s : Int) == (fu : Int)) = st := by rw [Hst2.out, Bool.eq_iff_iff, beq_iff_eq, decide_eq_true_eq]; omega
            go_wp2_with fail
            first | (go_region_held3 (fun w' => w'.cell? ⟨w.heap.size, k, none⟩ = some (.int .u64 s) ∧ Below w.heap.size w w') (first | (exact ⟨(hb2.cell (p := ⟨w.heap.size, k, none⟩) hsz).trans hck, HB.out.drew.trans (hb2.mono (Nat.le_of_lt hsz))⟩) | (exact ⟨hck, HB.out.drew⟩) | go_keep)
                (first
                  | (go_at_call 49; (with_reducible refine (HF.out _ TD.out).mono ?_); rintro e w2 ⟨rfl, hb2⟩
                     have HB2 := Lib.hid hb2))) | fail "held"
            have B2 : Hid (Below wr.heap.size wr w2) := Lib.hid ((Below.refl _ wr).drew.trans HB2.out)
            have hck2 : w2.cell? ⟨w.heap.size, k, none⟩ = some (.int .u64 s) := (B2.out.cell (p := ⟨w.heap.size, k, none⟩) hsz).trans hck
            have hsz2 : w.heap.size < w2.heap.size := Nat.lt_of_lt_of_le hsz B2.out.size
            have X2 := Lib.hid (HX.out.below B2.out hsz)
            have c6 : w2.cell? ⟨w.heap.size, 6, none⟩ = some (.bool x.anyDay) := X2.out.cell 6
            have c7 : w2.cell? ⟨w.heap.size, 7, none⟩ = some (.bool x.anyWeek) := X2.out.cell 7
            have T2 : Hid (Tabs w2.drew) := Lib.hid (TD.out.grow (HB2.out.drew))
            have BW2 : Hid (Below w.heap.size w w2) := Lib.hid (HB.out.trans (B2.out.mono (Nat.le_of_lt hsz)))
            clear hse
            go_wp2_with fail
            go_roundw
            case rel => exact ⟨k + 1, by omega, by go_num, by rw [Hsucc.out, Hpc.out, if_pos Hcase.out, List.append_nil]; exact own_kp Hown.out (Kp.of_below (S := fun _ => False) B2.out) (fun i h => h.elim), BW2.out, X2.out⟩
            case measure => simp [intOf]; omega
          · have hcase : ¬ (k = 0 ∧ s0 = 1) := fun h => hs1 (by rw [h0s]; exact h.2)
            have d1 : ((s : Int) == 1) = false := by rw [beq_eq_false_iff_ne]; omega
            have Hcase := Lib.hid hcase
            clear hst' h0s hs1 h00 hz hcase
            have hse : ((s : Int) == (fu : Int)) = st := by rw [Hst2.out, Bool.eq_iff_iff, beq_iff_eq, decide_eq_true_eq]; omega
            go_wp2_with fail
            first | (go_region_held3 (fun w' => w'.cell? ⟨w.heap.size, k, none⟩ = some (.int .u64 s) ∧ Below w.heap.size w w') (first | (exact ⟨(hb2.cell (p := ⟨w.heap.size, k, none⟩) hsz).trans hck, HB.out.drew.trans (hb2.mono (Nat.le_of_lt hsz))⟩) | (exact ⟨hck, HB.out.drew⟩) | go_keep)
                (first
                  | (go_at_call 49; (with_reducible refine (HF.out _ TD.out).mono ?_); rintro e w2 ⟨rfl, hb2⟩
                     have HB2 := Lib.hid hb2))) | fail "held"
            have B2 : Hid (Below wr.heap.size wr w2) := Lib.hid ((Below.refl _ wr).drew.trans HB2.out)
            have hck2 : w2.cell? ⟨w.heap.size, k, none⟩ = some (.int .u64 s) := (B2.out.cell (p := ⟨w.heap.size, k, none⟩) hsz).trans hck
            have hsz2 : w.heap.size < w2.heap.size := Nat.lt_of_lt_of_le hsz B2.out.size
            have X2 := Lib.hid (HX.out.below B2.out hsz)
            have c6 : w2.cell? ⟨w.heap.size, 6, none⟩ = some (.bool x.anyDay) := X2.out.cell 6
            have c7 : w2.cell? ⟨w.heap.size, 7, none⟩ = some (.bool x.anyWeek) := X2.out.cell 7
            have T2 : Hid (Tabs w2.drew) := Lib.hid (TD.out.grow (HB2.out.drew))
            have BW2 : Hid (Below w.heap.size w w2) := Lib.hid (HB.out.trans (B2.out.mono (Nat.le_of_lt hsz)))
            clear hse
            go_wp2_with fail
            refine wp_region_held_drew (S := (fun w' => w'.cell? ⟨w.heap.size, k, none⟩ = some (.int .u64 s) ∧ Below w.heap.size w w')) (by kernel_rfl) ?hs1 (fun hHeld => ?rs1)
            case hs1 => exact ⟨hck2, BW2.out.drew⟩
            refine wpAnyH_take (i := 1) (oi := ?oi2) (v := ?vv2) ?hi2 (by kernel_rfl) (by kernel_rfl) (by kernel_rfl) ?hq2 (Or.inl ⟨?hw2, ?hy2⟩) (by assumption) ?rs2
            case hi2 => (simp only [Hg]; rfl)
            case hq2 => exact fun _ _ _ h => h
            case hw2 => rfl
            case hy2 => (intro w hSw; (try dsimp only at hSw); go_simp <;> with_reducible rfl)
            simp only [Hp]
            refine wpAnyH_take (i := 4) (oi := ?oi3) (v := ?vv3) ?hi3 (by kernel_rfl) (by kernel_rfl) (by kernel_rfl) ?hq3 (Or.inl ⟨?hw3, ?hy3⟩) (by assumption) ?rs3
            case hi3 => (simp only [Hg]; rfl)
            case hq3 => exact fun _ _ _ h => h
            case hw3 => rfl
            case hy3 => (intro w hSw; (try dsimp only at hSw); go_simp <;> with_reducible rfl)
            simp only [Hp]
            refine wpAnyH_take (i := 5) (oi := ?oi4) (v := ?vv4) ?hi4 (by kernel_rfl) (by kernel_rfl) (by kernel_rfl) ?hq4 (Or.inl ⟨?hw4, ?hy4⟩) (by assumption) ?rs4
            case hi4 => (simp only [Hg]; rfl)
            case hq4 => exact fun _ _ _ h => h
            case hw4 => rfl
            case hy4 => (intro w hSw; (try dsimp only at hSw); go_simp <;> with_reducible rfl)
            simp only [Hp]
            refine wpAnyH_take (i := 6) (oi := ?oi5) (v := ?vv5) ?hi5 (by kernel_rfl) (by kernel_rfl) (by kernel_rfl) ?hq5 (Or.inl ⟨?hw5, ?hy5⟩) (by assumption) ?rs5
            case hi5 => (simp only [Hg]; rfl)
            case hq5 => exact fun _ _ _ h => h
            case hw5 => rfl
            case hy5 => (intro w hSw; (try dsimp only at hSw); go_simp <;> with_reducible rfl)
            simp only [Hp]
            refine wpAnyH_take (i := 7) (oi := ?oi6) (v := ?vv6) ?hi6 (by kernel_rfl) (by kernel_rfl) (by kernel_rfl) ?hq6 (Or.inl ⟨?hw6, ?hy6⟩) (by assumption) ?rs6
            case hi6 => (simp only [Hg]; rfl)
            case hq6 => exact fun _ _ _ h => h
            case hw6 => rfl
            case hy6 => (intro w hSw; (try dsimp only at hSw); go_simp <;> with_reducible rfl)
            simp only [Hp]
            refine wpAnyH_ready (rs := [0]) (by kernel_rfl) (by simp) (AllReadyH.cons (o := ?oi7) ?hi7 (fun K hK => ?rs7) AllReadyH.nil)
            case hi7 => (simp only [Hg]; rfl)
            go_simp
            (go_at_call 32; (with_reducible refine (field_Six _ T2.out).mono ?_); rintro e w3 ⟨g, m, d, rfl, hb3, h6, hm, hd⟩; obtain ⟨lo, hi, A, c, l, week, hkx⟩ := h6.kx k hk; have HB3 := Lib.hid hb3; have K3 := Lib.hid hkx; have T3 := Lib.hid (T2.out.grow hb3); have hg := h6.lt; have c0 := hkx.c0; have c1 := hkx.c1; have c2 := hkx.c2; have c3 := hkx.c3; have hsz3 : w.heap.size < w3.heap.size := Nat.lt_of_lt_of_le hsz2 hb3.size)
            refine hK.out _ _ ?hs7 (fun hHeld => ?rt7)
            case hs7 => exact ⟨(hb3.cell (p := ⟨w.heap.size, k, none⟩) hsz2).trans hck2, BW2.out.drew.trans (hb3.mono (Nat.le_of_lt hsz2))⟩
            clear hK K
            try simp only [Hp]
            refine wpAnyH_take (i := 2) (oi := ?oi8) (v := ?vv8) ?hi8 (by kernel_rfl) (by kernel_rfl) (by kernel_rfl) ?hq8 (Or.inl ⟨?hw8, ?hy8⟩) (by assumption) ?rs8
            case hi8 => (simp only [Hg]; rfl)
            case hq8 => exact fun _ _ _ h => h
            case hw8 => rfl
            case hy8 => (intro w hSw; (try dsimp only at hSw); go_simp <;> with_reducible rfl)
            simp only [Hp]
            refine wpAnyH_ready (rs := [3]) (by kernel_rfl) (by simp) (AllReadyH.cons (o := ?oi9) ?hi9 (fun K hK => ?rs9) AllReadyH.nil)
            case hi9 => (simp only [Hg]; rfl)
            go_simp
            refine hK.out _ _ ?hs9 (fun hHeld => ?rt9)
            case hs9 => assumption
            clear hK K
            try simp only [Hp]
            refine wpAnyH_ready (rs := [8]) (by kernel_rfl) (by simp) (AllReadyH.cons (o := ?oi10) ?hi10 (fun K hK => ?rs10) AllReadyH.nil)
            case hi10 => (simp only [Hg]; rfl)
            go_simp
            (go_at_call 50; (with_reducible refine (HPr.out _ _ _ _ _ _ _ _ K3.out T3.out).mono ?_); rintro e w4 ⟨rfl, hb4⟩; have HB4 := Lib.hid hb4)
            refine hK.out _ _ ?hs10 (fun hHeld => ?rt10)
            case hs10 => exact ⟨(hb4.cell (p := ⟨w.heap.size, k, none⟩) hsz3).trans ((hb3.cell (p := ⟨w.heap.size, k, none⟩) hsz2).trans hck2), (BW2.out.drew.trans (hb3.mono (Nat.le_of_lt hsz2))).trans (hb4.mono (Nat.le_of_lt hsz3))⟩
            clear hK K
            try simp only [Hp]
            refine wpAnyH_take (i := 9) (oi := ?oi11) (v := ?vv11) ?hi11 (by kernel_rfl) (by kernel_rfl) (by kernel_rfl) ?hq11 (Or.inl ⟨?hw11, ?hy11⟩) (by assumption) ?rs11
            case hi11 => (simp only [Hg]; rfl)
            case hq11 => exact fun _ _ _ h => h
            case hw11 => rfl
            case hy11 => (intro w hSw; (try dsimp only at hSw); go_simp <;> with_reducible rfl)
            simp only [Hp]
            refine wpAnyH_take (i := 10) (oi := ?oi12) (v := ?vv12) ?hi12 (by kernel_rfl) (by kernel_rfl) (by kernel_rfl) ?hq12 (Or.inl ⟨?hw12, ?hy12⟩) (by assumption) ?rs12
            case hi12 => (simp only [Hg]; rfl)
            case hq12 => exact fun _ _ _ h => h
            case hw12 => rfl
            case hy12 => (intro w hSw; (try dsimp only at hSw); go_simp <;> with_reducible rfl)
            simp only [Hp]
            refine wpAnyH_take (i := 11) (oi := ?oi13) (v := ?vv13) ?hi13 (by kernel_rfl) (by kernel_rfl) (by kernel_rfl) ?hq13 (Or.inl ⟨?hw13, ?hy13⟩) (by assumption) ?rs13
            case hi13 => (simp only [Hg]; rfl)
            case hq13 => exact fun _ _ _ h => h
            case hw13 => rfl
            case hy13 => (intro w hSw; (try dsimp only at hSw); go_simp <;> with_reducible rfl)
            simp only [Hp]
            refine wpAnyH_take (i := 12) (oi := ?oi14) (v := ?vv14) ?hi14 (by kernel_rfl) (by kernel_rfl) (by kernel_rfl) ?hq14 (Or.inl ⟨?hw14, ?hy14⟩) (by assumption) ?rs14
            case hi14 => (simp only [Hg]; rfl)
            case hq14 => exact fun _ _ _ h => h
            case hw14 => rfl
            case hy14 => (intro w hSw; (try dsimp only at hSw); go_simp <;> with_reducible rfl)
            simp only [Hp]
            refine wpAnyH_take (i := 13) (oi := ?oi15) (v := ?vv15) ?hi15 (by kernel_rfl) (by kernel_rfl) (by kernel_rfl) ?hq15 (Or.inl ⟨?hw15, ?hy15⟩) (by assumption) ?rs15
            case hi15 => (simp only [Hg]; rfl)
            case hq15 => exact fun _ _ _ h => h
            case hw15 => rfl
            case hy15 => (intro w hSw; (try dsimp only at hSw); go_simp <;> with_reducible rfl)
            simp only [Hp]
            refine wpAnyH_done (by kernel_rfl) ?_ _

            have B3 : Hid (Below wr.heap.size wr w3) := Lib.hid (B2.out.drew.trans (HB3.out.mono B2.out.size))
            have B4 : Hid (Below wr.heap.size wr w4) := Lib.hid (B3.out.trans (HB4.out.mono B3.out.size))
            have X4 := Lib.hid (HX.out.below B4.out hsz)
            have O4 := Lib.hid (own_kp Hown.out (Kp.of_below (S := fun _ => False) B4.out) (fun i h => h.elim))
            have hsz4 : w.heap.size < w4.heap.size := Nat.lt_of_lt_of_le hsz B4.out.size
            have BW4 : Hid (Below w.heap.size w w4) := Lib.hid (HB.out.trans (B4.out.mono (Nat.le_of_lt hsz)))
            clear hg c0 c1 c2 c3 c6 c7 hck hck2
            go_wp2_with (at_builtin; refine wpList_append_lies _ rfl _ _ 58 rfl (w.heap.size + 1) 9 i0 _ 1 16 Tryz.underlying58 hi0 hz0 hz1 hz2 rfl (by decide) u5 (txX x k).length ((txX x k).map fun t => Value.string (strOf t)) rfl (O4.out.alloc _) ⟨w4.heap.size, 0, none⟩ 1 1 [.string (strOf T0)] rfl rfl (cell_one_new _ _ _) (by intro u hu; simp at hu; subst hu; rfl) (by omega) (by unfold maxLen; omega) (by omega) (by simp; omega) (w4.heap.size + 1) (by simp) ?_; intro g5 cap5 w5 hown5 hgrow5 hat5 hlt5)
            have hrow : ∀ i, u5.ownBlock = some i → w.heap.size + 1 ≤ i := fun i h => (O4.out.lt i h).1
            have BW5 := Lib.hid ((BW4.out.alloc BW4.out.size _).grown hgrow5 (by simp; omega) (fun i h => by have := hrow i h; omega))
            have X5 := Lib.hid ((X4.out.alloc _).kp (kp_grown hgrow5) (fun e => by have := hrow _ e; omega))
            have hlast : (txX x (k + 1)) = txX x k ++ [T0] := by rw [Hsucc.out, Hpc.out, if_neg Hcase.out]
            have O5 : Hid (w5.ownsRow (w.heap.size + 1) 9 1 (.slice (some ⟨g5, 0, none⟩) ((txX x k).length + 1) cap5) (txX x (k + 1)).length ((txX x (k + 1)).map fun t => Value.string (strOf t))) := Lib.hid (by rw [hlast, List.length_append, List.map_append]; exact hown5)
            clear hown5 hgrow5 hat5 hlast
            go_wp2_with fail
            go_roundw
            case rel => exact ⟨k + 1, by omega, by go_num, O5.out, BW5.out, X5.out⟩
            case measure => simp [intOf]; omega
        · have d0 : ((k : Int) == 0) = false := by rw [beq_eq_false_iff_ne]; omega
          have Hcase : Hid (¬ (k = 0 ∧ s0 = 1)) := Lib.hid fun h => hz h.1
          clear h00
          by_cases h3 : k = 3
          · have d3 : ((k : Int) == 3) = true := by rw [beq_iff_eq]; omega
            have hst3 : x.anyDay = st := by rw [Hst.out, if_pos h3]
            have Hst3 := Lib.hid hst3
            have d5 : ((k : Int) == 5) = false := by rw [beq_eq_false_iff_ne]; omega
            clear hst3 h3
            go_wp2_with fail
            first | (go_region_held3 (fun w' => w'.cell? ⟨w.heap.size, k, none⟩ = some (.int .u64 s) ∧ Below w.heap.size w w') (first | (exact ⟨(hb2.cell (p := ⟨w.heap.size, k, none⟩) hsz).trans hck, HB.out.drew.trans (hb2.mono (Nat.le_of_lt hsz))⟩) | (exact ⟨hck, HB.out.drew⟩) | go_keep)
                (first
                  | (go_at_call 49; (with_reducible refine (HF.out _ TD.out).mono ?_); rintro e w2 ⟨rfl, hb2⟩
                     have HB2 := Lib.hid hb2))) | fail "held"
            have B2 : Hid (Below wr.heap.size wr w2) := Lib.hid ((Below.refl _ wr).drew.trans HB2.out)
            have hck2 : w2.cell? ⟨w.heap.size, k, none⟩ = some (.int .u64 s) := (B2.out.cell (p := ⟨w.heap.size, k, none⟩) hsz).trans hck
            have hsz2 : w.heap.size < w2.heap.size := Nat.lt_of_lt_of_le hsz B2.out.size
            have X2 := Lib.hid (HX.out.below B2.out hsz)
            have c6 : w2.cell? ⟨w.heap.size, 6, none⟩ = some (.bool x.anyDay) := X2.out.cell 6
            have c7 : w2.cell? ⟨w.heap.size, 7, none⟩ = some (.bool x.anyWeek) := X2.out.cell 7
            have T2 : Hid (Tabs w2.drew) := Lib.hid (TD.out.grow (HB2.out.drew))
            have BW2 : Hid (Below w.heap.size w w2) := Lib.hid (HB.out.trans (B2.out.mono (Nat.le_of_lt hsz)))
            rw [Hst3.out] at c6
            go_wp2_with fail
            refine wp_region_held_drew (S := (fun w' => w'.cell? ⟨w.heap.size, k, none⟩ = some (.int .u64 s) ∧ Below w.heap.size w w')) (by kernel_rfl) ?hs16 (fun hHeld => ?rs16)
            case hs16 => exact ⟨hck2, BW2.out.drew⟩
            refine wpAnyH_take (i := 1) (oi := ?oi17) (v := ?vv17) ?hi17 (by kernel_rfl) (by kernel_rfl) (by kernel_rfl) ?hq17 (Or.inl ⟨?hw17, ?hy17⟩) (by assumption) ?rs17
            case hi17 => (simp only [Hg]; rfl)
            case hq17 => exact fun _ _ _ h => h
            case hw17 => rfl
            case hy17 => (intro w hSw; (try dsimp only at hSw); go_simp <;> with_reducible rfl)
            simp only [Hp]
            refine wpAnyH_take (i := 4) (oi := ?oi18) (v := ?vv18) ?hi18 (by kernel_rfl) (by kernel_rfl) (by kernel_rfl) ?hq18 (Or.inl ⟨?hw18, ?hy18⟩) (by assumption) ?rs18
            case hi18 => (simp only [Hg]; rfl)
            case hq18 => exact fun _ _ _ h => h
            case hw18 => rfl
            case hy18 => (intro w hSw; (try dsimp only at hSw); go_simp <;> with_reducible rfl)
            simp only [Hp]
            refine wpAnyH_take (i := 5) (oi := ?oi19) (v := ?vv19) ?hi19 (by kernel_rfl) (by kernel_rfl) (by kernel_rfl) ?hq19 (Or.inl ⟨?hw19, ?hy19⟩) (by assumption) ?rs19
            case hi19 => (simp only [Hg]; rfl)
            case hq19 => exact fun _ _ _ h => h
            case hw19 => rfl
            case hy19 => (intro w hSw; (try dsimp only at hSw); go_simp <;> with_reducible rfl)
            simp only [Hp]
            refine wpAnyH_take (i := 6) (oi := ?oi20) (v := ?vv20) ?hi20 (by kernel_rfl) (by kernel_rfl) (by kernel_rfl) ?hq20 (Or.inl ⟨?hw20, ?hy20⟩) (by assumption) ?rs20
            case hi20 => (simp only [Hg]; rfl)
            case hq20 => exact fun _ _ _ h => h
            case hw20 => rfl
            case hy20 => (intro w hSw; (try dsimp only at hSw); go_simp <;> with_reducible rfl)
            simp only [Hp]
            refine wpAnyH_take (i := 7) (oi := ?oi21) (v := ?vv21) ?hi21 (by kernel_rfl) (by kernel_rfl) (by kernel_rfl) ?hq21 (Or.inl ⟨?hw21, ?hy21⟩) (by assumption) ?rs21
            case hi21 => (simp only [Hg]; rfl)
            case hq21 => exact fun _ _ _ h => h
            case hw21 => rfl
            case hy21 => (intro w hSw; (try dsimp only at hSw); go_simp <;> with_reducible rfl)
            simp only [Hp]
            refine wpAnyH_ready (rs := [0]) (by kernel_rfl) (by simp) (AllReadyH.cons (o := ?oi22) ?hi22 (fun K hK => ?rs22) AllReadyH.nil)
            case hi22 => (simp only [Hg]; rfl)
            go_simp
            (go_at_call 32; (with_reducible refine (field_Six _ T2.out).mono ?_); rintro e w3 ⟨g, m, d, rfl, hb3, h6, hm, hd⟩; obtain ⟨lo, hi, A, c, l, week, hkx⟩ := h6.kx k hk; have HB3 := Lib.hid hb3; have K3 := Lib.hid hkx; have T3 := Lib.hid (T2.out.grow hb3); have hg := h6.lt; have c0 := hkx.c0; have c1 := hkx.c1; have c2 := hkx.c2; have c3 := hkx.c3; have hsz3 : w.heap.size < w3.heap.size := Nat.lt_of_lt_of_le hsz2 hb3.size)
            refine hK.out _ _ ?hs22 (fun hHeld => ?rt22)
            case hs22 => exact ⟨(hb3.cell (p := ⟨w.heap.size, k, none⟩) hsz2).trans hck2, BW2.out.drew.trans (hb3.mono (Nat.le_of_lt hsz2))⟩
            clear hK K
            try simp only [Hp]
            refine wpAnyH_take (i := 2) (oi := ?oi23) (v := ?vv23) ?hi23 (by kernel_rfl) (by kernel_rfl) (by kernel_rfl) ?hq23 (Or.inl ⟨?hw23, ?hy23⟩) (by assumption) ?rs23
            case hi23 => (simp only [Hg]; rfl)
            case hq23 => exact fun _ _ _ h => h
            case hw23 => rfl
            case hy23 => (intro w hSw; (try dsimp only at hSw); go_simp <;> with_reducible rfl)
            simp only [Hp]
            refine wpAnyH_ready (rs := [3]) (by kernel_rfl) (by simp) (AllReadyH.cons (o := ?oi24) ?hi24 (fun K hK => ?rs24) AllReadyH.nil)
            case hi24 => (simp only [Hg]; rfl)
            go_simp
            refine hK.out _ _ ?hs24 (fun hHeld => ?rt24)
            case hs24 => assumption
            clear hK K
            try simp only [Hp]
            refine wpAnyH_ready (rs := [8]) (by kernel_rfl) (by simp) (AllReadyH.cons (o := ?oi25) ?hi25 (fun K hK => ?rs25) AllReadyH.nil)
            case hi25 => (simp only [Hg]; rfl)
            go_simp
            (go_at_call 50; (with_reducible refine (HPr.out _ _ _ _ _ _ _ _ K3.out T3.out).mono ?_); rintro e w4 ⟨rfl, hb4⟩; have HB4 := Lib.hid hb4)
            refine hK.out _ _ ?hs25 (fun hHeld => ?rt25)
            case hs25 => exact ⟨(hb4.cell (p := ⟨w.heap.size, k, none⟩) hsz3).trans ((hb3.cell (p := ⟨w.heap.size, k, none⟩) hsz2).trans hck2), (BW2.out.drew.trans (hb3.mono (Nat.le_of_lt hsz2))).trans (hb4.mono (Nat.le_of_lt hsz3))⟩
            clear hK K
            try simp only [Hp]
            refine wpAnyH_take (i := 9) (oi := ?oi26) (v := ?vv26) ?hi26 (by kernel_rfl) (by kernel_rfl) (by kernel_rfl) ?hq26 (Or.inl ⟨?hw26, ?hy26⟩) (by assumption) ?rs26
            case hi26 => (simp only [Hg]; rfl)
            case hq26 => exact fun _ _ _ h => h
            case hw26 => rfl
            case hy26 => (intro w hSw; (try dsimp only at hSw); go_simp <;> with_reducible rfl)
            simp only [Hp]
            refine wpAnyH_take (i := 10) (oi := ?oi27) (v := ?vv27) ?hi27 (by kernel_rfl) (by kernel_rfl) (by kernel_rfl) ?hq27 (Or.inl ⟨?hw27, ?hy27⟩) (by assumption) ?rs27
            case hi27 => (simp only [Hg]; rfl)
            case hq27 => exact fun _ _ _ h => h
            case hw27 => rfl
            case hy27 => (intro w hSw; (try dsimp only at hSw); go_simp <;> with_reducible rfl)
            simp only [Hp]
            refine wpAnyH_take (i := 11) (oi := ?oi28) (v := ?vv28) ?hi28 (by kernel_rfl) (by kernel_rfl) (by kernel_rfl) ?hq28 (Or.inl ⟨?hw28, ?hy28⟩) (by assumption) ?rs28
            case hi28 => (simp only [Hg]; rfl)
            case hq28 => exact fun _ _ _ h => h
            case hw28 => rfl
            case hy28 => (intro w hSw; (try dsimp only at hSw); go_simp <;> with_reducible rfl)
            simp only [Hp]
            refine wpAnyH_take (i := 12) (oi := ?oi29) (v := ?vv29) ?hi29 (by kernel_rfl) (by kernel_rfl) (by kernel_rfl) ?hq29 (Or.inl ⟨?hw29, ?hy29⟩) (by assumption) ?rs29
            case hi29 => (simp only [Hg]; rfl)
            case hq29 => exact fun _ _ _ h => h
            case hw29 => rfl
            case hy29 => (intro w hSw; (try dsimp only at hSw); go_simp <;> with_reducible rfl)
            simp only [Hp]
            refine wpAnyH_take (i := 13) (oi := ?oi30) (v := ?vv30) ?hi30 (by kernel_rfl) (by kernel_rfl) (by kernel_rfl) ?hq30 (Or.inl ⟨?hw30, ?hy30⟩) (by assumption) ?rs30
            case hi30 => (simp only [Hg]; rfl)
            case hq30 => exact fun _ _ _ h => h
            case hw30 => rfl
            case hy30 => (intro w hSw; (try dsimp only at hSw); go_simp <;> with_reducible rfl)
            simp only [Hp]
            refine wpAnyH_done (by kernel_rfl) ?_ _

            have B3 : Hid (Below wr.heap.size wr w3) := Lib.hid (B2.out.drew.trans (HB3.out.mono B2.out.size))
            have B4 : Hid (Below wr.heap.size wr w4) := Lib.hid (B3.out.trans (HB4.out.mono B3.out.size))
            have X4 := Lib.hid (HX.out.below B4.out hsz)
            have O4 := Lib.hid (own_kp Hown.out (Kp.of_below (S := fun _ => False) B4.out) (fun i h => h.elim))
            have hsz4 : w.heap.size < w4.heap.size := Nat.lt_of_lt_of_le hsz B4.out.size
            have BW4 : Hid (Below w.heap.size w w4) := Lib.hid (HB.out.trans (B4.out.mono (Nat.le_of_lt hsz)))
            clear hg c0 c1 c2 c3 c6 c7 hck hck2
            go_wp2_with (at_builtin; refine wpList_append_lies _ rfl _ _ 58 rfl (w.heap.size + 1) 9 i0 _ 1 16 Tryz.underlying58 hi0 hz0 hz1 hz2 rfl (by decide) u5 (txX x k).length ((txX x k).map fun t => Value.string (strOf t)) rfl (O4.out.alloc _) ⟨w4.heap.size, 0, none⟩ 1 1 [.string (strOf T0)] rfl rfl (cell_one_new _ _ _) (by intro u hu; simp at hu; subst hu; rfl) (by omega) (by unfold maxLen; omega) (by omega) (by simp; omega) (w4.heap.size + 1) (by simp) ?_; intro g5 cap5 w5 hown5 hgrow5 hat5 hlt5)
            have hrow : ∀ i, u5.ownBlock = some i → w.heap.size + 1 ≤ i := fun i h => (O4.out.lt i h).1
            have BW5 := Lib.hid ((BW4.out.alloc BW4.out.size _).grown hgrow5 (by simp; omega) (fun i h => by have := hrow i h; omega))
            have X5 := Lib.hid ((X4.out.alloc _).kp (kp_grown hgrow5) (fun e => by have := hrow _ e; omega))
            have hlast : (txX x (k + 1)) = txX x k ++ [T0] := by rw [Hsucc.out, Hpc.out, if_neg Hcase.out]
            have O5 : Hid (w5.ownsRow (w.heap.size + 1) 9 1 (.slice (some ⟨g5, 0, none⟩) ((txX x k).length + 1) cap5) (txX x (k + 1)).length ((txX x (k + 1)).map fun t => Value.string (strOf t))) := Lib.hid (by rw [hlast, List.length_append, List.map_append]; exact hown5)
            clear hown5 hgrow5 hat5 hlast
            go_wp2_with fail
            go_roundw
            case rel => exact ⟨k + 1, by omega, by go_num, O5.out, BW5.out, X5.out⟩
            case measure => simp [intOf]; omega
          · have d3 : ((k : Int) == 3) = false := by rw [beq_eq_false_iff_ne]; omega
            by_cases h5 : k = 5
            · have d5 : ((k : Int) == 5) = true := by rw [beq_iff_eq]; omega
              have hst5 : x.anyWeek = st := by rw [Hst.out, if_neg h3, if_pos h5]
              have Hst5 := Lib.hid hst5
              clear hst5 h5
              go_wp2_with fail
              first | (go_region_held3 (fun w' => w'.cell? ⟨w.heap.size, k, none⟩ = some (.int .u64 s) ∧ Below w.heap.size w w') (first | (exact ⟨(hb2.cell (p := ⟨w.heap.size, k, none⟩) hsz).trans hck, HB.out.drew.trans (hb2.mono (Nat.le_of_lt hsz))⟩) | (exact ⟨hck, HB.out.drew⟩) | go_keep)
                  (first
                    | (go_at_call 49; (with_reducible refine (HF.out _ TD.out).mono ?_); rintro e w2 ⟨rfl, hb2⟩
                       have HB2 := Lib.hid hb2))) | fail "held"
              have B2 : Hid (Below wr.heap.size wr w2) := Lib.hid ((Below.refl _ wr).drew.trans HB2.out)
              have hck2 : w2.cell? ⟨w.heap.size, k, none⟩ = some (.int .u64 s) := (B2.out.cell (p := ⟨w.heap.size, k, none⟩) hsz).trans hck
              have hsz2 : w.heap.size < w2.heap.size := Nat.lt_of_lt_of_le hsz B2.out.size
              have X2 := Lib.hid (HX.out.below B2.out hsz)
              have c6 : w2.cell? ⟨w.heap.size, 6, none⟩ = some (.bool x.anyDay) := X2.out.cell 6
              have c7 : w2.cell? ⟨w.heap.size, 7, none⟩ = some (.bool x.anyWeek) := X2.out.cell 7
              have T2 : Hid (Tabs w2.drew) := Lib.hid (TD.out.grow (HB2.out.drew))
              have BW2 : Hid (Below w.heap.size w w2) := Lib.hid (HB.out.trans (B2.out.mono (Nat.le_of_lt hsz)))
              rw [Hst5.out] at c7
              go_wp2_with fail
              refine wp_region_held_drew (S := (fun w' => w'.cell? ⟨w.heap.size, k, none⟩ = some (.int .u64 s) ∧ Below w.heap.size w w')) (by kernel_rfl) ?hs31 (fun hHeld => ?rs31)
              case hs31 => exact ⟨hck2, BW2.out.drew⟩
              refine wpAnyH_take (i := 1) (oi := ?oi32) (v := ?vv32) ?hi32 (by kernel_rfl) (by kernel_rfl) (by kernel_rfl) ?hq32 (Or.inl ⟨?hw32, ?hy32⟩) (by assumption) ?rs32
              case hi32 => (simp only [Hg]; rfl)
              case hq32 => exact fun _ _ _ h => h
              case hw32 => rfl
              case hy32 => (intro w hSw; (try dsimp only at hSw); go_simp <;> with_reducible rfl)
              simp only [Hp]
              refine wpAnyH_take (i := 4) (oi := ?oi33) (v := ?vv33) ?hi33 (by kernel_rfl) (by kernel_rfl) (by kernel_rfl) ?hq33 (Or.inl ⟨?hw33, ?hy33⟩) (by assumption) ?rs33
              case hi33 => (simp only [Hg]; rfl)
              case hq33 => exact fun _ _ _ h => h
              case hw33 => rfl
              case hy33 => (intro w hSw; (try dsimp only at hSw); go_simp <;> with_reducible rfl)
              simp only [Hp]
              refine wpAnyH_take (i := 5) (oi := ?oi34) (v := ?vv34) ?hi34 (by kernel_rfl) (by kernel_rfl) (by kernel_rfl) ?hq34 (Or.inl ⟨?hw34, ?hy34⟩) (by assumption) ?rs34
              case hi34 => (simp only [Hg]; rfl)
              case hq34 => exact fun _ _ _ h => h
              case hw34 => rfl
              case hy34 => (intro w hSw; (try dsimp only at hSw); go_simp <;> with_reducible rfl)
              simp only [Hp]
              refine wpAnyH_take (i := 6) (oi := ?oi35) (v := ?vv35) ?hi35 (by kernel_rfl) (by kernel_rfl) (by kernel_rfl) ?hq35 (Or.inl ⟨?hw35, ?hy35⟩) (by assumption) ?rs35
              case hi35 => (simp only [Hg]; rfl)
              case hq35 => exact fun _ _ _ h => h
              case hw35 => rfl
              case hy35 => (intro w hSw; (try dsimp only at hSw); go_simp <;> with_reducible rfl)
              simp only [Hp]
              refine wpAnyH_take (i := 7) (oi := ?oi36) (v := ?vv36) ?hi36 (by kernel_rfl) (by kernel_rfl) (by kernel_rfl) ?hq36 (Or.inl ⟨?hw36, ?hy36⟩) (by assumption) ?rs36
              case hi36 => (simp only [Hg]; rfl)
              case hq36 => exact fun _ _ _ h => h
              case hw36 => rfl
              case hy36 => (intro w hSw; (try dsimp only at hSw); go_simp <;> with_reducible rfl)
              simp only [Hp]
              refine wpAnyH_ready (rs := [0]) (by kernel_rfl) (by simp) (AllReadyH.cons (o := ?oi37) ?hi37 (fun K hK => ?rs37) AllReadyH.nil)
              case hi37 => (simp only [Hg]; rfl)
              go_simp
              (go_at_call 32; (with_reducible refine (field_Six _ T2.out).mono ?_); rintro e w3 ⟨g, m, d, rfl, hb3, h6, hm, hd⟩; obtain ⟨lo, hi, A, c, l, week, hkx⟩ := h6.kx k hk; have HB3 := Lib.hid hb3; have K3 := Lib.hid hkx; have T3 := Lib.hid (T2.out.grow hb3); have hg := h6.lt; have c0 := hkx.c0; have c1 := hkx.c1; have c2 := hkx.c2; have c3 := hkx.c3; have hsz3 : w.heap.size < w3.heap.size := Nat.lt_of_lt_of_le hsz2 hb3.size)
              refine hK.out _ _ ?hs37 (fun hHeld => ?rt37)
              case hs37 => exact ⟨(hb3.cell (p := ⟨w.heap.size, k, none⟩) hsz2).trans hck2, BW2.out.drew.trans (hb3.mono (Nat.le_of_lt hsz2))⟩
              clear hK K
              try simp only [Hp]
              refine wpAnyH_take (i := 2) (oi := ?oi38) (v := ?vv38) ?hi38 (by kernel_rfl) (by kernel_rfl) (by kernel_rfl) ?hq38 (Or.inl ⟨?hw38, ?hy38⟩) (by assumption) ?rs38
              case hi38 => (simp only [Hg]; rfl)
              case hq38 => exact fun _ _ _ h => h
              case hw38 => rfl
              case hy38 => (intro w hSw; (try dsimp only at hSw); go_simp <;> with_reducible rfl)
              simp only [Hp]
              refine wpAnyH_ready (rs := [3]) (by kernel_rfl) (by simp) (AllReadyH.cons (o := ?oi39) ?hi39 (fun K hK => ?rs39) AllReadyH.nil)
              case hi39 => (simp only [Hg]; rfl)
              go_simp
              refine hK.out _ _ ?hs39 (fun hHeld => ?rt39)
              case hs39 => assumption
              clear hK K
              try simp only [Hp]
              refine wpAnyH_ready (rs := [8]) (by kernel_rfl) (by simp) (AllReadyH.cons (o := ?oi40) ?hi40 (fun K hK => ?rs40) AllReadyH.nil)
              case hi40 => (simp only [Hg]; rfl)
              go_simp
              (go_at_call 50; (with_reducible refine (HPr.out _ _ _ _ _ _ _ _ K3.out T3.out).mono ?_); rintro e w4 ⟨rfl, hb4⟩; have HB4 := Lib.hid hb4)
              refine hK.out _ _ ?hs40 (fun hHeld => ?rt40)
              case hs40 => exact ⟨(hb4.cell (p := ⟨w.heap.size, k, none⟩) hsz3).trans ((hb3.cell (p := ⟨w.heap.size, k, none⟩) hsz2).trans hck2), (BW2.out.drew.trans (hb3.mono (Nat.le_of_lt hsz2))).trans (hb4.mono (Nat.le_of_lt hsz3))⟩
              clear hK K
              try simp only [Hp]
              refine wpAnyH_take (i := 9) (oi := ?oi41) (v := ?vv41) ?hi41 (by kernel_rfl) (by kernel_rfl) (by kernel_rfl) ?hq41 (Or.inl ⟨?hw41, ?hy41⟩) (by assumption) ?rs41
              case hi41 => (simp only [Hg]; rfl)
              case hq41 => exact fun _ _ _ h => h
              case hw41 => rfl
              case hy41 => (intro w hSw; (try dsimp only at hSw); go_simp <;> with_reducible rfl)
              simp only [Hp]
              refine wpAnyH_take (i := 10) (oi := ?oi42) (v := ?vv42) ?hi42 (by kernel_rfl) (by kernel_rfl) (by kernel_rfl) ?hq42 (Or.inl ⟨?hw42, ?hy42⟩) (by assumption) ?rs42
              case hi42 => (simp only [Hg]; rfl)
              case hq42 => exact fun _ _ _ h => h
              case hw42 => rfl
              case hy42 => (intro w hSw; (try dsimp only at hSw); go_simp <;> with_reducible rfl)
              simp only [Hp]
              refine wpAnyH_take (i := 11) (oi := ?oi43) (v := ?vv43) ?hi43 (by kernel_rfl) (by kernel_rfl) (by kernel_rfl) ?hq43 (Or.inl ⟨?hw43, ?hy43⟩) (by assumption) ?rs43
              case hi43 => (simp only [Hg]; rfl)
              case hq43 => exact fun _ _ _ h => h
              case hw43 => rfl
              case hy43 => (intro w hSw; (try dsimp only at hSw); go_simp <;> with_reducible rfl)
              simp only [Hp]
              refine wpAnyH_take (i := 12) (oi := ?oi44) (v := ?vv44) ?hi44 (by kernel_rfl) (by kernel_rfl) (by kernel_rfl) ?hq44 (Or.inl ⟨?hw44, ?hy44⟩) (by assumption) ?rs44
              case hi44 => (simp only [Hg]; rfl)
              case hq44 => exact fun _ _ _ h => h
              case hw44 => rfl
              case hy44 => (intro w hSw; (try dsimp only at hSw); go_simp <;> with_reducible rfl)
              simp only [Hp]
              refine wpAnyH_take (i := 13) (oi := ?oi45) (v := ?vv45) ?hi45 (by kernel_rfl) (by kernel_rfl) (by kernel_rfl) ?hq45 (Or.inl ⟨?hw45, ?hy45⟩) (by assumption) ?rs45
              case hi45 => (simp only [Hg]; rfl)
              case hq45 => exact fun _ _ _ h => h
              case hw45 => rfl
              case hy45 => (intro w hSw; (try dsimp only at hSw); go_simp <;> with_reducible rfl)
              simp only [Hp]
              refine wpAnyH_done (by kernel_rfl) ?_ _

              have B3 : Hid (Below wr.heap.size wr w3) := Lib.hid (B2.out.drew.trans (HB3.out.mono B2.out.size))
              have B4 : Hid (Below wr.heap.size wr w4) := Lib.hid (B3.out.trans (HB4.out.mono B3.out.size))
              have X4 := Lib.hid (HX.out.below B4.out hsz)
              have O4 := Lib.hid (own_kp Hown.out (Kp.of_below (S := fun _ => False) B4.out) (fun i h => h.elim))
              have hsz4 : w.heap.size < w4.heap.size := Nat.lt_of_lt_of_le hsz B4.out.size
              have BW4 : Hid (Below w.heap.size w w4) := Lib.hid (HB.out.trans (B4.out.mono (Nat.le_of_lt hsz)))
              clear hg c0 c1 c2 c3 c6 c7 hck hck2
              go_wp2_with (at_builtin; refine wpList_append_lies _ rfl _ _ 58 rfl (w.heap.size + 1) 9 i0 _ 1 16 Tryz.underlying58 hi0 hz0 hz1 hz2 rfl (by decide) u5 (txX x k).length ((txX x k).map fun t => Value.string (strOf t)) rfl (O4.out.alloc _) ⟨w4.heap.size, 0, none⟩ 1 1 [.string (strOf T0)] rfl rfl (cell_one_new _ _ _) (by intro u hu; simp at hu; subst hu; rfl) (by omega) (by unfold maxLen; omega) (by omega) (by simp; omega) (w4.heap.size + 1) (by simp) ?_; intro g5 cap5 w5 hown5 hgrow5 hat5 hlt5)
              have hrow : ∀ i, u5.ownBlock = some i → w.heap.size + 1 ≤ i := fun i h => (O4.out.lt i h).1
              have BW5 := Lib.hid ((BW4.out.alloc BW4.out.size _).grown hgrow5 (by simp; omega) (fun i h => by have := hrow i h; omega))
              have X5 := Lib.hid ((X4.out.alloc _).kp (kp_grown hgrow5) (fun e => by have := hrow _ e; omega))
              have hlast : (txX x (k + 1)) = txX x k ++ [T0] := by rw [Hsucc.out, Hpc.out, if_neg Hcase.out]
              have O5 : Hid (w5.ownsRow (w.heap.size + 1) 9 1 (.slice (some ⟨g5, 0, none⟩) ((txX x k).length + 1) cap5) (txX x (k + 1)).length ((txX x (k + 1)).map fun t => Value.string (strOf t))) := Lib.hid (by rw [hlast, List.length_append, List.map_append]; exact hown5)
              clear hown5 hgrow5 hat5 hlast
              go_wp2_with fail
              go_roundw
              case rel => exact ⟨k + 1, by omega, by go_num, O5.out, BW5.out, X5.out⟩
              case measure => simp [intOf]; omega
            · have d5 : ((k : Int) == 5) = false := by rw [beq_eq_false_iff_ne]; omega
              have hst' : st = decide (s = fu) := by rw [Hst.out, if_neg h3, if_neg h5]
              have Hst2 := Lib.hid hst'
              clear hst'
              have hse : ((s : Int) == (fu : Int)) = st := by rw [Hst2.out, Bool.eq_iff_iff, beq_iff_eq, decide_eq_true_eq]; omega
              go_wp2_with fail
              first | (go_region_held3 (fun w' => w'.cell? ⟨w.heap.size, k, none⟩ = some (.int .u64 s) ∧ Below w.heap.size w w') (first | (exact ⟨(hb2.cell (p := ⟨w.heap.size, k, none⟩) hsz).trans hck, HB.out.drew.trans (hb2.mono (Nat.le_of_lt hsz))⟩) | (exact ⟨hck, HB.out.drew⟩) | go_keep)
                  (first
                    | (go_at_call 49; (with_reducible refine (HF.out _ TD.out).mono ?_); rintro e w2 ⟨rfl, hb2⟩
                       have HB2 := Lib.hid hb2))) | fail "held"
              have B2 : Hid (Below wr.heap.size wr w2) := Lib.hid ((Below.refl _ wr).drew.trans HB2.out)
              have hck2 : w2.cell? ⟨w.heap.size, k, none⟩ = some (.int .u64 s) := (B2.out.cell (p := ⟨w.heap.size, k, none⟩) hsz).trans hck
              have hsz2 : w.heap.size < w2.heap.size := Nat.lt_of_lt_of_le hsz B2.out.size
              have X2 := Lib.hid (HX.out.below B2.out hsz)
              have c6 : w2.cell? ⟨w.heap.size, 6, none⟩ = some (.bool x.anyDay) := X2.out.cell 6
              have c7 : w2.cell? ⟨w.heap.size, 7, none⟩ = some (.bool x.anyWeek) := X2.out.cell 7
              have T2 : Hid (Tabs w2.drew) := Lib.hid (TD.out.grow (HB2.out.drew))
              have BW2 : Hid (Below w.heap.size w w2) := Lib.hid (HB.out.trans (B2.out.mono (Nat.le_of_lt hsz)))
              clear hse
              go_wp2_with fail
              refine wp_region_held_drew (S := (fun w' => w'.cell? ⟨w.heap.size, k, none⟩ = some (.int .u64 s) ∧ Below w.heap.size w w')) (by kernel_rfl) ?hs46 (fun hHeld => ?rs46)
              case hs46 => exact ⟨hck2, BW2.out.drew⟩
              refine wpAnyH_take (i := 1) (oi := ?oi47) (v := ?vv47) ?hi47 (by kernel_rfl) (by kernel_rfl) (by kernel_rfl) ?hq47 (Or.inl ⟨?hw47, ?hy47⟩) (by assumption) ?rs47
              case hi47 => (simp only [Hg]; rfl)
              case hq47 => exact fun _ _ _ h => h
              case hw47 => rfl
              case hy47 => (intro w hSw; (try dsimp only at hSw); go_simp <;> with_reducible rfl)
              simp only [Hp]
              refine wpAnyH_take (i := 4) (oi := ?oi48) (v := ?vv48) ?hi48 (by kernel_rfl) (by kernel_rfl) (by kernel_rfl) ?hq48 (Or.inl ⟨?hw48, ?hy48⟩) (by assumption) ?rs48
              case hi48 => (simp only [Hg]; rfl)
              case hq48 => exact fun _ _ _ h => h
              case hw48 => rfl
              case hy48 => (intro w hSw; (try dsimp only at hSw); go_simp <;> with_reducible rfl)
              simp only [Hp]
              refine wpAnyH_take (i := 5) (oi := ?oi49) (v := ?vv49) ?hi49 (by kernel_rfl) (by kernel_rfl) (by kernel_rfl) ?hq49 (Or.inl ⟨?hw49, ?hy49⟩) (by assumption) ?rs49
              case hi49 => (simp only [Hg]; rfl)
              case hq49 => exact fun _ _ _ h => h
              case hw49 => rfl
              case hy49 => (intro w hSw; (try dsimp only at hSw); go_simp <;> with_reducible rfl)
              simp only [Hp]
              refine wpAnyH_take (i := 6) (oi := ?oi50) (v := ?vv50) ?hi50 (by kernel_rfl) (by kernel_rfl) (by kernel_rfl) ?hq50 (Or.inl ⟨?hw50, ?hy50⟩) (by assumption) ?rs50
              case hi50 => (simp only [Hg]; rfl)
              case hq50 => exact fun _ _ _ h => h
              case hw50 => rfl
              case hy50 => (intro w hSw; (try dsimp only at hSw); go_simp <;> with_reducible rfl)
              simp only [Hp]
              refine wpAnyH_take (i := 7) (oi := ?oi51) (v := ?vv51) ?hi51 (by kernel_rfl) (by kernel_rfl) (by kernel_rfl) ?hq51 (Or.inl ⟨?hw51, ?hy51⟩) (by assumption) ?rs51
              case hi51 => (simp only [Hg]; rfl)
              case hq51 => exact fun _ _ _ h => h
              case hw51 => rfl
              case hy51 => (intro w hSw; (try dsimp only at hSw); go_simp <;> with_reducible rfl)
              simp only [Hp]
              refine wpAnyH_ready (rs := [0]) (by kernel_rfl) (by simp) (AllReadyH.cons (o := ?oi52) ?hi52 (fun K hK => ?rs52) AllReadyH.nil)
              case hi52 => (simp only [Hg]; rfl)
              go_simp
              (go_at_call 32; (with_reducible refine (field_Six _ T2.out).mono ?_); rintro e w3 ⟨g, m, d, rfl, hb3, h6, hm, hd⟩; obtain ⟨lo, hi, A, c, l, week, hkx⟩ := h6.kx k hk; have HB3 := Lib.hid hb3; have K3 := Lib.hid hkx; have T3 := Lib.hid (T2.out.grow hb3); have hg := h6.lt; have c0 := hkx.c0; have c1 := hkx.c1; have c2 := hkx.c2; have c3 := hkx.c3; have hsz3 : w.heap.size < w3.heap.size := Nat.lt_of_lt_of_le hsz2 hb3.size)
              refine hK.out _ _ ?hs52 (fun hHeld => ?rt52)
              case hs52 => exact ⟨(hb3.cell (p := ⟨w.heap.size, k, none⟩) hsz2).trans hck2, BW2.out.drew.trans (hb3.mono (Nat.le_of_lt hsz2))⟩
              clear hK K
              try simp only [Hp]
              refine wpAnyH_take (i := 2) (oi := ?oi53) (v := ?vv53) ?hi53 (by kernel_rfl) (by kernel_rfl) (by kernel_rfl) ?hq53 (Or.inl ⟨?hw53, ?hy53⟩) (by assumption) ?rs53
              case hi53 => (simp only [Hg]; rfl)
              case hq53 => exact fun _ _ _ h => h
              case hw53 => rfl
              case hy53 => (intro w hSw; (try dsimp only at hSw); go_simp <;> with_reducible rfl)
              simp only [Hp]
              refine wpAnyH_ready (rs := [3]) (by kernel_rfl) (by simp) (AllReadyH.cons (o := ?oi54) ?hi54 (fun K hK => ?rs54) AllReadyH.nil)
              case hi54 => (simp only [Hg]; rfl)
              go_simp
              refine hK.out _ _ ?hs54 (fun hHeld => ?rt54)
              case hs54 => assumption
              clear hK K
              try simp only [Hp]
              refine wpAnyH_ready (rs := [8]) (by kernel_rfl) (by simp) (AllReadyH.cons (o := ?oi55) ?hi55 (fun K hK => ?rs55) AllReadyH.nil)
              case hi55 => (simp only [Hg]; rfl)
              go_simp
              (go_at_call 50; (with_reducible refine (HPr.out _ _ _ _ _ _ _ _ K3.out T3.out).mono ?_); rintro e w4 ⟨rfl, hb4⟩; have HB4 := Lib.hid hb4)
              refine hK.out _ _ ?hs55 (fun hHeld => ?rt55)
              case hs55 => exact ⟨(hb4.cell (p := ⟨w.heap.size, k, none⟩) hsz3).trans ((hb3.cell (p := ⟨w.heap.size, k, none⟩) hsz2).trans hck2), (BW2.out.drew.trans (hb3.mono (Nat.le_of_lt hsz2))).trans (hb4.mono (Nat.le_of_lt hsz3))⟩
              clear hK K
              try simp only [Hp]
              refine wpAnyH_take (i := 9) (oi := ?oi56) (v := ?vv56) ?hi56 (by kernel_rfl) (by kernel_rfl) (by kernel_rfl) ?hq56 (Or.inl ⟨?hw56, ?hy56⟩) (by assumption) ?rs56
              case hi56 => (simp only [Hg]; rfl)
              case hq56 => exact fun _ _ _ h => h
              case hw56 => rfl
              case hy56 => (intro w hSw; (try dsimp only at hSw); go_simp <;> with_reducible rfl)
              simp only [Hp]
              refine wpAnyH_take (i := 10) (oi := ?oi57) (v := ?vv57) ?hi57 (by kernel_rfl) (by kernel_rfl) (by kernel_rfl) ?hq57 (Or.inl ⟨?hw57, ?hy57⟩) (by assumption) ?rs57
              case hi57 => (simp only [Hg]; rfl)
              case hq57 => exact fun _ _ _ h => h
              case hw57 => rfl
              case hy57 => (intro w hSw; (try dsimp only at hSw); go_simp <;> with_reducible rfl)
              simp only [Hp]
              refine wpAnyH_take (i := 11) (oi := ?oi58) (v := ?vv58) ?hi58 (by kernel_rfl) (by kernel_rfl) (by kernel_rfl) ?hq58 (Or.inl ⟨?hw58, ?hy58⟩) (by assumption) ?rs58
              case hi58 => (simp only [Hg]; rfl)
              case hq58 => exact fun _ _ _ h => h
              case hw58 => rfl
              case hy58 => (intro w hSw; (try dsimp only at hSw); go_simp <;> with_reducible rfl)
              simp only [Hp]
              refine wpAnyH_take (i := 12) (oi := ?oi59) (v := ?vv59) ?hi59 (by kernel_rfl) (by kernel_rfl) (by kernel_rfl) ?hq59 (Or.inl ⟨?hw59, ?hy59⟩) (by assumption) ?rs59
              case hi59 => (simp only [Hg]; rfl)
              case hq59 => exact fun _ _ _ h => h
              case hw59 => rfl
              case hy59 => (intro w hSw; (try dsimp only at hSw); go_simp <;> with_reducible rfl)
              simp only [Hp]
              refine wpAnyH_take (i := 13) (oi := ?oi60) (v := ?vv60) ?hi60 (by kernel_rfl) (by kernel_rfl) (by kernel_rfl) ?hq60 (Or.inl ⟨?hw60, ?hy60⟩) (by assumption) ?rs60
              case hi60 => (simp only [Hg]; rfl)
              case hq60 => exact fun _ _ _ h => h
              case hw60 => rfl
              case hy60 => (intro w hSw; (try dsimp only at hSw); go_simp <;> with_reducible rfl)
              simp only [Hp]
              refine wpAnyH_done (by kernel_rfl) ?_ _

              have B3 : Hid (Below wr.heap.size wr w3) := Lib.hid (B2.out.drew.trans (HB3.out.mono B2.out.size))
              have B4 : Hid (Below wr.heap.size wr w4) := Lib.hid (B3.out.trans (HB4.out.mono B3.out.size))
              have X4 := Lib.hid (HX.out.below B4.out hsz)
              have O4 := Lib.hid (own_kp Hown.out (Kp.of_below (S := fun _ => False) B4.out) (fun i h => h.elim))
              have hsz4 : w.heap.size < w4.heap.size := Nat.lt_of_lt_of_le hsz B4.out.size
              have BW4 : Hid (Below w.heap.size w w4) := Lib.hid (HB.out.trans (B4.out.mono (Nat.le_of_lt hsz)))
              clear hg c0 c1 c2 c3 c6 c7 hck hck2
              go_wp2_with (at_builtin; refine wpList_append_lies _ rfl _ _ 58 rfl (w.heap.size + 1) 9 i0 _ 1 16 Tryz.underlying58 hi0 hz0 hz1 hz2 rfl (by decide) u5 (txX x k).length ((txX x k).map fun t => Value.string (strOf t)) rfl (O4.out.alloc _) ⟨w4.heap.size, 0, none⟩ 1 1 [.string (strOf T0)] rfl rfl (cell_one_new _ _ _) (by intro u hu; simp at hu; subst hu; rfl) (by omega) (by unfold maxLen; omega) (by omega) (by simp; omega) (w4.heap.size + 1) (by simp) ?_; intro g5 cap5 w5 hown5 hgrow5 hat5 hlt5)
              have hrow : ∀ i, u5.ownBlock = some i → w.heap.size + 1 ≤ i := fun i h => (O4.out.lt i h).1
              have BW5 := Lib.hid ((BW4.out.alloc BW4.out.size _).grown hgrow5 (by simp; omega) (fun i h => by have := hrow i h; omega))
              have X5 := Lib.hid ((X4.out.alloc _).kp (kp_grown hgrow5) (fun e => by have := hrow _ e; omega))
              have hlast : (txX x (k + 1)) = txX x k ++ [T0] := by rw [Hsucc.out, Hpc.out, if_neg Hcase.out]
              have O5 : Hid (w5.ownsRow (w.heap.size + 1) 9 1 (.slice (some ⟨g5, 0, none⟩) ((txX x k).length + 1) cap5) (txX x (k + 1)).length ((txX x (k + 1)).map fun t => Value.string (strOf t))) := Lib.hid (by rw [hlast, List.length_append, List.map_append]; exact hown5)
              clear hown5 hgrow5 hat5 hlast
              go_wp2_with fail
              go_roundw
              case rel => exact ⟨k + 1, by omega, by go_num, O5.out, BW5.out, X5.out⟩
              case measure => simp [intOf]; omega
      · obtain rfl : k = 6 := by omega
        have hpos : 0 < (txX x 6).length := by rw [txX_six, Xs.texts_len]; split <;> decide
        have hout := Hown.out.form hpos
        obtain ⟨g3, cap3, rfl, hg3, hg4⟩ := hout
        have Hown3 := Hown.out
        have h6 := txX_six x
        have hjl := texts_join_len x
        rw [h6] at Hown3
        have hcl3 : ∀ (j : Nat) y, ((Xs.texts KX x).map strOf)[j]? = some y → wr.cell? ⟨g3, 0 + j, none⟩ = some (.string y) := by
          intro j y hj
          have h1 := Hown3.cells (g := g3) rfl j (.string y) (by rw [List.getElem?_map] at hj ⊢; cases hq : (Xs.texts KX x)[j]? with
            | none => rw [hq] at hj; cases hj
            | some z => rw [hq] at hj; simp only [Option.map_some, Option.some.injEq] at hj ⊢; rw [hj])
          rw [Nat.zero_add]
          rcases j with _ | j
          · simpa [Addr.add] using h1
          · simpa [Addr.add] using h1
        have hmm : ((Xs.texts KX x).map strOf).map (·.data.toList) = Xs.texts KX x := by simp [Function.comp_def, strOf]
        have hcap3 : (Xs.texts KX x).length ≤ cap3 := by
          rcases Hown3.2 with ⟨h, _⟩ | ⟨g', cap', cur, h, _, _, h2, _⟩
          · cases h
          · injection h with h1 h2' h3'; omega
        have hll : (Xs.texts KX x).length ≤ 6 := by rw [Xs.texts_len]; split <;> decide
        have hJ := Tryz.strings_Join g3 0 cap3 ((Xs.texts KX x).map strOf) ⟨#[32]⟩ wr hcl3 hg4 (by simp; omega) (by simpa using hcap3) (by rw [hmm]; show (Lib.join (Xs.texts KX x) [32]).length ≤ _; rw [joinS_eq]; omega)
        rw [hmm] at hJ
        have hJ2 : Calls Tryz.prog 34 #[.slice (some ⟨g3, 0, none⟩) (txX x 6).length cap3, .string ⟨#[32]⟩] wr fun e w' => e = .returned (.string ⟨(Xs.joinS (Xs.texts KX x)).toArray⟩) ∧ Below wr.heap.size wr w' := by
          have h : Lib.join (Xs.texts KX x) (ByteArray.mk #[32]).data.toList = Xs.joinS (Xs.texts KX x) := joinS_eq _
          rw [h] at hJ
          rw [h6]
          simpa using hJ
        have HJ := Lib.hid hJ2
        clear hJ hJ2 hmm hjl hcl3 Hown3 h6 hcap3 hll
        generalize (txX x 6).length = n6 at *
        go_wp2_with (go_at_call 34; ((with_reducible refine (HJ.out).mono ?_)); rintro e w3 ⟨rfl, hb3⟩)
        go_ret2
        exact ⟨rfl, HB.out.trans (hb3.mono HB.out.size)⟩
end Go.Proofs.YtjnlgaeedcklaaaGreatDoor
