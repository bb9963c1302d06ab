/-
  The document's Seconds and Print of an expression.
-/
import Derived.Test.YtjnlgaeedcklaaaGreatDoorYRefB
import Derived.Test.YtjnlgaeedcklaaaGreatDoorXPrint
import Derived.BigQuiet
set_option linter.unusedVariables false
set_option linter.unusedSimpArgs false
namespace Go.Proofs.YtjnlgaeedcklaaaGreatDoor
open Go.RowKit

set_option maxRecDepth 100000 in
set_option maxHeartbeats 2000000 in
theorem ref7_Seconds (x : Xs.Ex) (w : World) (hx : SmallX x) :
    Calls Tryz.prog 22 #[exV x.second x.minute x.hour x.day x.month x.week x.anyDay x.anyWeek] w fun e w' => e = .returned (.tuple #[.int .i64 ((if Xs.checkB KX x then secX x else 0 : Nat) : Int), .int .i64 (chk x)]) ∧ Below w.heap.size w w' := by
  have HCk : Hid (∀ W, Calls Tryz.prog 24 #[exV x.second x.minute x.hour x.day x.month x.week x.anyDay x.anyWeek] W fun e w' => e = .returned (.int .i64 (chk x)) ∧ Below W.heap.size W w') := Lib.hid fun W => ref7_Check x W hx
  cases hc : Xs.checkB KX x with
  | false =>
    rw [chk_bad hc] at HCk ⊢
    clear hc hx
    go_enter Tryz.func22, Tryz.ntmps22
    go_wp2_with (go_at_call 24; (with_reducible refine (HCk.out _).mono ?_); rintro e w1 ⟨rfl, hb1⟩; have HB := Lib.hid (((Below.refl _ w).alloc (Nat.le_refl _) _).trans (hb1.mono (by simp))); clear hb1)
    go_ret2
    exact ⟨rfl, HB.out⟩
  | true =>
    rw [chk_ok hc] at HCk ⊢
    have C1 := Lib.hid fun W => ref7_count x.second W (hx.set 0 (by decide))
    have C2 := Lib.hid fun W => ref7_count x.minute W (hx.set 1 (by decide))
    have C3 := Lib.hid fun W => ref7_count x.hour W (hx.set 2 (by decide))
    have e1 := Xs.cnt_le 64 x.second
    have e2 := Xs.cnt_le 64 x.minute
    have e3 := Xs.cnt_le 64 x.hour
    rw [if_pos rfl]
    unfold secX
    generalize Xs.cnt 64 x.second = a at *
    generalize Xs.cnt 64 x.minute = b at *
    generalize Xs.cnt 64 x.hour = c at *
    obtain ⟨p, hp⟩ : ∃ p, a * b = p := ⟨_, rfl⟩
    obtain ⟨q, hq⟩ : ∃ q, p * c = q := ⟨_, rfl⟩
    rw [hp, hq]
    have hp' : (a : Int) * (b : Int) = (p : Int) := by rw [← hp]; exact (Int.natCast_mul a b).symm
    have hq' : (p : Int) * (c : Int) = (q : Int) := by rw [← hq]; exact (Int.natCast_mul p c).symm
    have p1 : p ≤ 4096 := by rw [← hp]; exact Nat.mul_le_mul e1 e2
    have q1 : q ≤ 262144 := by rw [← hq]; exact Nat.mul_le_mul p1 e3
    clear hp hq hc hx
    go_enter Tryz.func22, Tryz.ntmps22
    go_wp2_with (go_at_call 24; (with_reducible refine (HCk.out _).mono ?_); rintro e w1 ⟨rfl, hb1⟩; obtain ⟨kc, kf⟩ := ((Blk.new w 25 (exC x.second x.minute x.hour x.day x.month x.week x.anyDay x.anyWeek)).below hb1 (by simp)).facts; have HB := Lib.hid (((Below.refl _ w).alloc (Nat.le_refl _) _).trans (hb1.mono (by simp))); clear hb1)
    go_quiet (first
      | (go_at_call 54; with_reducible exact quiet_of_left (C1.out _))
      | (go_at_call 54; with_reducible exact quiet_of_left (C2.out _))
      | (go_at_call 54; with_reducible exact quiet_of_left (C3.out _)))
    go_wp2
    go_ret2
    exact ⟨rfl, below_drewN HB.out _⟩

theorem str_cat (a b : ByteArray) (h : a.size + b.size ≤ 9223372036854775807) (W : World) : (Op.stringOp .add a b).run Tryz.prog W = .ok (.string (a ++ b)) W := by
  have hi : IntKind.i64.max = 9223372036854775807 := rfl
  unfold Op.stringOp
  simp only
  rw [if_neg (by rw [hi]; omega)]
  rfl

set_option maxHeartbeats 2000000 in
theorem ref7_Six (w : World) : Calls Tryz.prog 45 #[] w fun e w' =>
    ∃ g m d, e = .returned (.slice (some ⟨g, 0, none⟩) 6 6) ∧ Below w.heap.size w w' ∧ SixAt w' g m d := by
  go_enter Tryz.func45, Tryz.ntmps45
  go_wp2_with fail
  go_ret
  exact ⟨_, _, _, rfl, (((Below.refl _ _).alloc (Nat.le_refl _) _).alloc (by simp) _).alloc (by simp <;> omega) _, six_laid w _⟩

theorem kx_PrintR {w : World} {g i : Nat} {lo hi : Int} {A : Option Addr} {c : Nat} {l : List ByteArray} {week : Bool} (h : KxAt w g i lo hi A c l week) (s : Nat) (star : Bool) (hs : s < 18446744073709551616) :
    Calls Tryz.prog 53 #[.agg #[.int .i64 lo, .int .i64 hi, .slice A l.length c, .bool week], .int .u64 s, .bool star] w fun e w' => e = .returned (retPrint (Fs.printB (KX i) s star)) ∧ Below w.heap.size w w' := by
  have a1 := h.lo0
  have a2 := h.lohi
  have a3 := h.hi59
  have a4 := h.len
  rw [h.kd]
  exact ref_Print w lo hi A c l week s star (by omega) (by omega) (by omega) (by omega) (by omega) h.cap h.names h.shorts hs
theorem kx_ParseR {w : World} {g i : Nat} {lo hi : Int} {A : Option Addr} {c : Nat} {l : List ByteArray} {week : Bool} (h : KxAt w g i lo hi A c l week) (s : ByteArray) (hs : s.size ≤ 100000) :
    Calls Tryz.prog 44 #[.agg #[.int .i64 lo, .int .i64 hi, .slice A l.length c, .bool week], .string s] w fun e w' => e = .returned (retP (Fs.parse (KX i) s.data.toList)) ∧ Below w.heap.size w w' := by
  have a1 := h.lo0
  have a2 := h.lohi
  have a3 := h.hi59
  have a4 := h.len
  rw [h.kd]
  exact ref_Parse s w lo hi A c l week (by omega) (by omega) (by omega) (by omega) hs (by omega) h.cap h.names h.shorts

/-! ### The text so far -/
theorem joinS_snoc : ∀ (ts : List (List UInt8)) (t : List UInt8), Xs.joinS (ts ++ [t]) = if ts = [] then t else Xs.joinS ts ++ 32 :: t := by
  intro ts
  induction ts with
  | nil => intro t; rfl
  | cons a ts ih =>
    intro t
    rw [if_neg (by simp)]
    rcases ts with _ | ⟨b, ts⟩
    · rfl
    · have e : ∀ r, Xs.joinS (a :: b :: r) = a ++ 32 :: Xs.joinS (b :: r) := fun r => rfl
      have := ih t
      rw [if_neg (by simp)] at this
      rw [List.cons_append, List.cons_append, e, ← List.cons_append, this, e]
      simp
theorem joinS_nil (ts : List (List UInt8)) (h : ∀ t ∈ ts, t ≠ []) : Xs.joinS ts = [] ↔ ts = [] := by
  rcases ts with _ | ⟨a, _ | ⟨b, ts⟩⟩
  · simp [Xs.joinS]
  · have := h a (by simp); simp [Xs.joinS, this]
  · have := h a (by simp); simp [Xs.joinS]
theorem txX_ne {x : Xs.Ex} (hc : Xs.checkB KX x = true) (k : Nat) (hk : k ≤ 6) : ∀ t ∈ txX x k, t ≠ [] := by
  intro t ht
  unfold txX at ht
  rw [List.mem_flatMap] at ht
  obtain ⟨i, hi, ht⟩ := ht
  have hi6 : i < 6 := by have := List.mem_range.1 hi; omega
  unfold pcX at ht
  split at ht
  · simp at ht
  · simp at ht
    subst ht
    exact (Xs.txt_ok kinds_ok hc hi6 (setX_get x i hi6)).2.2.2
theorem txX_short (x : Xs.Ex) (k : Nat) : ∀ t ∈ txX x k, t.length ≤ 600 := by
  intro t ht
  unfold txX at ht
  rw [List.mem_flatMap] at ht
  obtain ⟨i, hi, ht⟩ := ht
  unfold pcX at ht
  split at ht
  · simp at ht
  · simp at ht
    subst ht
    exact txt_len x i _
theorem txX_join_len (x : Xs.Ex) (k : Nat) (hk : k ≤ 6) : (Xs.joinS (txX x k)).length ≤ 3606 := by
  have h1 := joinS_len _ (txX_short x k)
  have h2 := txX_le x k
  omega

set_option maxRecDepth 100000 in
set_option maxHeartbeats 16000000 in
theorem ref7_Print (x : Xs.Ex) (w : World) (hx : SmallX x) :
    Calls Tryz.prog 20 #[exV x.second x.minute x.hour x.day x.month x.week x.anyDay x.anyWeek] w fun e w' => e = .returned (retPrint (Xs.printX KX x)) ∧ Below w.heap.size w w' := by
  have HCk : Hid (∀ W, Calls Tryz.prog 24 #[exV x.second x.minute x.hour x.day x.month x.week x.anyDay x.anyWeek] W fun e w' => e = .returned (.int .i64 (chk x)) ∧ Below W.heap.size W w') := Lib.hid fun W => ref7_Check x W hx
  cases hc : Xs.checkB KX x with
  | false =>
    have hch : chk x = 16 := by unfold chk; rw [hc]; rfl
    rw [printX_bad hc]
    rw [hch] at HCk
    clear hc hx
    go_enter Tryz.func20, Tryz.ntmps20
    go_wp2_with (go_at_call 24; (with_reducible refine (HCk.out _).mono ?_); rintro e w1 ⟨rfl, hb1⟩)
    go_ret2
    exact ⟨rfl, ((Below.refl _ _).alloc (Nat.le_refl _) _).trans (hb1.mono (by simp))⟩
  | true =>
    have hch : chk x = 0 := by unfold chk; rw [hc]; rfl
    have htx := fun i s hi hs => Xs.txt_ok kinds_ok hc (i := i) (s := s) hi hs
    rw [printX_ok hc]
    rw [hch] at HCk
    have Htx := Lib.hid htx
    have hset := hx.set
    have hcell := sixC_at x
    have Hset := Lib.hid hset
    have Hcell := Lib.hid hcell
    have HFi := Lib.hid fun W => ref7_FieldsX x W
    have Hne := Lib.hid fun k hk => joinS_nil _ (txX_ne hc k hk)
    clear hc hx htx hset hcell hch
    go_enter Tryz.func20, Tryz.ntmps20
    go_wp2_with (first
      | (go_at_call 24; (with_reducible refine (HCk.out _).mono ?_); rintro e w1 ⟨rfl, hb1⟩; obtain ⟨hc1, hf1⟩ := bcell hb1)
      | (go_at_call 51; (with_reducible refine (HFi.out _).mono ?_); rintro e w2 ⟨g, rfl, hL2, hg, hb2⟩))
    have hs1 : w.heap.size < w1.heap.size := by have := hb1.size; simp at this; omega
    have HB2 : Hid (Below w.heap.size w w2) := Lib.hid ((((Below.refl _ _).alloc (Nat.le_refl _) _).trans (hb1.mono (by simp))).trans (hb2.mono (Nat.le_of_lt hs1)))
    have HX2 : Hid (Blk w2 w.heap.size 25 (exC x.second x.minute x.hour x.day x.month x.week x.anyDay x.anyWeek)) := Lib.hid (((Blk.new w _ _).below hb1 (by simp)).below hb2 hs1)
    have HL2 := Lib.hid hL2
    have hgw : w.heap.size < g := by omega
    clear hc1 hf1 hb1 hb2 hL2 hg
    go_loopw [5, 6] (fun o i wr => ∃ k : Nat, k ≤ 6 ∧ i = .int .i64 k ∧ o = .string (strOf (Xs.joinS (txX x k))) ∧ Below w.heap.size w wr ∧ Blk wr w.heap.size 25 (exC x.second x.minute x.hour x.day x.month x.week x.anyDay x.anyWeek) ∧ Blk wr g 23 (sixC x)) (fun _ i _ => 6 - (intOf i).toNat)
    case atStart => exact ⟨0, Nat.zero_le _, rfl, rfl, HB2.out, HX2.out, HL2.out⟩
    case round =>
      obtain ⟨k, hk6, rfl, rfl, hb, hX, hL⟩ := hrel
      have HB := Lib.hid hb
      have HX := Lib.hid hX
      have HL := Lib.hid hL
      have hsz := hX.lt
      have hgz := hL.lt
      clear hb hX hL
      by_cases hk : k < 6
      · have hck : wr.cell? ⟨g, k, none⟩ = some (.int .u64 (setX x k)) := (HL.out.cell k).trans (Hcell.out k hk)
        have hc0 : wr.cell? ⟨g, 0, none⟩ = some (.int .u64 (setX x 0)) := (HL.out.cell 0).trans (Hcell.out 0 (by decide))
        have hsl := Hset.out k hk
        have HF : Hid (∀ W, Calls Tryz.prog 52 #[.int .i64 k] W fun e w' => e = .returned (.int .u64 (Fs.full (KX k))) ∧ Below W.heap.size W w') := Lib.hid fun W => ref7_fullX k hk W
        have htk := Htx.out k _ hk (setX_get x k hk)
        have hp1 := htk.1
        have hsucc := txX_succ x k
        have hpc : pcX x k = if k = 0 ∧ setX x 0 = 1 then [] else [Xs.txt KX x k (setX x k)] := rfl
        have hst : Xs.starOf KX x k (setX x k) = if k = 3 then x.anyDay else if k = 5 then x.anyWeek else decide (setX x k = Fs.full (KX k)) := rfl
        have hPr : ∀ W g lo hi A c l week, KxAt W g k lo hi A c l week → Calls Tryz.prog 53 #[.agg #[.int .i64 lo, .int .i64 hi, .slice A l.length c, .bool week], .int .u64 (setX x k), .bool (Xs.starOf KX x k (setX x k))] W fun e w' => e = .returned (.tuple #[.string (strOf (Xs.txt KX x k (setX x k))), .int .i64 0]) ∧ Below W.heap.size W w' := fun W g lo hi A c l week h => by
          have := kx_PrintR h (setX x k) (Xs.starOf KX x k (setX x k)) hsl
          rw [hp1] at this
          exact this
        have hln := txt_len x k (setX x k)
        have hjl := txX_join_len x k hk6
        have hjn := Hne.out k hk6
        have HPr := Lib.hid hPr
        have Hst := Lib.hid hst
        have Hpc := Lib.hid hpc
        have Hsucc := Lib.hid hsucc
        have h00 : k = 0 → setX x k = setX x 0 := fun h => by rw [h]
        clear htk hp1 hPr hst hpc hsucc
        generalize Xs.starOf KX x k (setX x k) = st at HPr Hst
        generalize Xs.txt KX x k (setX x k) = T0 at *
        generalize setX x 0 = s0 at *
        generalize setX x k = s at *
        generalize Fs.full (KX k) = fu at *
        have Hjn := Lib.hid hjn
        obtain ⟨J, hJ⟩ : ∃ J, Xs.joinS (txX x k) = J := ⟨_, rfl⟩
        rw [hJ] at hjl hjn Hjn
        rw [hJ]
        have HJ := Lib.hid hJ
        have oT : (strOf T0).size = T0.length := by show T0.toArray.size = _; simp
        have oJ : (strOf J).size = J.length := by show J.toArray.size = _; simp
        have a1 := str_cat (strOf J) ⟨#[32]⟩ (by rw [oJ]; show J.length + 1 ≤ _; omega)
        have a2 := str_cat (strOf J ++ ⟨#[32]⟩) (strOf T0) (by rw [ByteArray.size_append, oJ, oT]; show J.length + 1 + _ ≤ _; omega)
        have a3 := str_cat (strOf J) (strOf T0) (by rw [oJ, oT]; omega)
        clear hJ hjn hln hjl oT oJ
        by_cases hz : k = 0
        · have d0 : ((k : Int) == 0) = true := by rw [beq_iff_eq]; omega
          have d3 : ((k : Int) == 3) = false := by rw [beq_eq_false_iff_ne]; omega
          have d5 : ((k : Int) == 5) = false := by rw [beq_eq_false_iff_ne]; omega
          have hst' : st = decide (s = fu) := by rw [Hst.out, if_neg (by omega), if_neg (by omega)]
          have Hst2 := Lib.hid hst'
          have h0s := h00 hz
          by_cases hs1 : s0 = 1
          · have hcase : k = 0 ∧ s0 = 1 := ⟨hz, hs1⟩
            have d1 : ((s0 : Int) == 1) = true := by rw [beq_iff_eq]; omega
            have Hcase := Lib.hid hcase
            clear hst' h0s hs1 h00 hz hcase
            go_wp2_with fail
            go_roundw
            case rel => exact ⟨k + 1, by omega, by go_num, by rw [Hsucc.out, Hpc.out, if_pos Hcase.out, List.append_nil, HJ.out], HB.out, HX.out, HL.out⟩
            case measure => simp [intOf]; omega
          · have hcase : ¬ (k = 0 ∧ s0 = 1) := fun h => hs1 h.2
            have d1 : ((s0 : Int) == 1) = false := by rw [beq_eq_false_iff_ne]; omega
            have Hcase := Lib.hid hcase
            clear hst' h0s hs1 h00 hz hcase
            have hse : ((s : Int) == (fu : Int)) = st := by rw [Hst2.out, Bool.eq_iff_iff, beq_iff_eq, decide_eq_true_eq]; omega
            have gz2 : g < wr.drew.heap.size := hgz
            go_wp2_with fail
            refine wp_region_held_drew (S := (fun W => W.cell? ⟨g, k, none⟩ = some (.int .u64 s))) (by kernel_rfl) ?hs1 (fun hHeld => ?rs1)
            case hs1 => exact hck
            refine wpAnyH_take (i := 0) (oi := ?oi2) (v := ?vv2) ?hi2 (by kernel_rfl) (by kernel_rfl) (by kernel_rfl) ?hq2 (Or.inl ⟨?hw2, ?hy2⟩) (by assumption) ?rs2
            case hi2 => (simp only [Hg]; rfl)
            case hq2 => exact fun _ _ _ h => h
            case hw2 => rfl
            case hy2 => (intro w hSw; (try dsimp only at hSw); go_simp <;> with_reducible rfl)
            simp only [Hp]
            refine wpAnyH_take (i := 1) (oi := ?oi3) (v := ?vv3) ?hi3 (by kernel_rfl) (by kernel_rfl) (by kernel_rfl) ?hq3 (Or.inl ⟨?hw3, ?hy3⟩) (by assumption) ?rs3
            case hi3 => (simp only [Hg]; rfl)
            case hq3 => exact fun _ _ _ h => h
            case hw3 => rfl
            case hy3 => (intro w hSw; (try dsimp only at hSw); go_simp <;> with_reducible rfl)
            simp only [Hp]
            refine wpAnyH_take (i := 2) (oi := ?oi4) (v := ?vv4) ?hi4 (by kernel_rfl) (by kernel_rfl) (by kernel_rfl) ?hq4 (Or.inl ⟨?hw4, ?hy4⟩) (by assumption) ?rs4
            case hi4 => (simp only [Hg]; rfl)
            case hq4 => exact fun _ _ _ h => h
            case hw4 => rfl
            case hy4 => (intro w hSw; (try dsimp only at hSw); go_simp <;> with_reducible rfl)
            simp only [Hp]
            refine wpAnyH_take (i := 3) (oi := ?oi5) (v := ?vv5) ?hi5 (by kernel_rfl) (by kernel_rfl) (by kernel_rfl) ?hq5 (Or.inl ⟨?hw5, ?hy5⟩) (by assumption) ?rs5
            case hi5 => (simp only [Hg]; rfl)
            case hq5 => exact fun _ _ _ h => h
            case hw5 => rfl
            case hy5 => (intro w hSw; (try dsimp only at hSw); go_simp <;> with_reducible rfl)
            simp only [Hp]
            refine wpAnyH_take (i := 4) (oi := ?oi6) (v := ?vv6) ?hi6 (by kernel_rfl) (by kernel_rfl) (by kernel_rfl) ?hq6 (Or.inl ⟨?hw6, ?hy6⟩) (by assumption) ?rs6
            case hi6 => (simp only [Hg]; rfl)
            case hq6 => exact fun _ _ _ h => h
            case hw6 => rfl
            case hy6 => (intro w hSw; (try dsimp only at hSw); go_simp <;> with_reducible rfl)
            simp only [Hp]
            refine wpAnyH_ready (rs := [5]) (by kernel_rfl) (by simp) (AllReadyH.cons (o := ?oi7) ?hi7 (fun K hK => ?rs7) AllReadyH.nil)
            case hi7 => (simp only [Hg]; rfl)
            go_simp
            (go_at_call 52; (with_reducible refine (HF.out _).mono ?_); rintro e w2 ⟨rfl, hb2⟩; have HB2 := Lib.hid hb2)
            refine hK.out _ _ ?hs7 (fun hHeld => ?rt7)
            case hs7 => exact (hb2.cell (p := ⟨g, k, none⟩) gz2).trans hck
            clear hK K
            try simp only [Hp]
            refine wpAnyH_take (i := 6) (oi := ?oi8) (v := ?vv8) ?hi8 (by kernel_rfl) (by kernel_rfl) (by kernel_rfl) ?hq8 (Or.inl ⟨?hw8, ?hy8⟩) (by assumption) ?rs8
            case hi8 => (simp only [Hg]; rfl)
            case hq8 => exact fun _ _ _ h => h
            case hw8 => rfl
            case hy8 => (intro w hSw; (try dsimp only at hSw); go_simp <;> with_reducible rfl)
            simp only [Hp]
            refine wpAnyH_take (i := 7) (oi := ?oi9) (v := ?vv9) ?hi9 (by kernel_rfl) (by kernel_rfl) (by kernel_rfl) ?hq9 (Or.inl ⟨?hw9, ?hy9⟩) (by assumption) ?rs9
            case hi9 => (simp only [Hg]; rfl)
            case hq9 => exact fun _ _ _ h => h
            case hw9 => rfl
            case hy9 => (intro w hSw; (try dsimp only at hSw); go_simp <;> with_reducible rfl)
            simp only [Hp]
            refine wpAnyH_done (by kernel_rfl) ?_ _

            have B2 : Hid (Below wr.heap.size wr w2) := Lib.hid ((Below.refl _ wr).drew.trans HB2.out)
            have hck2 : w2.cell? ⟨g, k, none⟩ = some (.int .u64 s) := (B2.out.cell (p := ⟨g, k, none⟩) hgz).trans hck
            have hsz2 : w.heap.size < w2.heap.size := Nat.lt_of_lt_of_le hsz B2.out.size
            have hgz2 : g < w2.drew.heap.size := Nat.lt_of_lt_of_le hgz B2.out.size
            have X2 := Lib.hid (HX.out.below B2.out hsz)
            have L2 := Lib.hid (HL.out.below B2.out hgz)
            have c6 : w2.cell? ⟨w.heap.size, 6, none⟩ = some (.bool x.anyDay) := X2.out.cell 6
            have c7 : w2.cell? ⟨w.heap.size, 7, none⟩ = some (.bool x.anyWeek) := X2.out.cell 7
            clear hse
            go_wp2_with fail
            refine wp_region_held_drew (S := (fun W => W.cell? ⟨g, k, none⟩ = some (.int .u64 s))) (by kernel_rfl) ?hs10 (fun hHeld => ?rs10)
            case hs10 => exact hck2
            refine wpAnyH_take (i := 1) (oi := ?oi11) (v := ?vv11) ?hi11 (by kernel_rfl) (by kernel_rfl) (by kernel_rfl) ?hq11 (Or.inl ⟨?hw11, ?hy11⟩) (by assumption) ?rs11
            case hi11 => (simp only [Hg]; rfl)
            case hq11 => exact fun _ _ _ h => h
            case hw11 => rfl
            case hy11 => (intro w hSw; (try dsimp only at hSw); go_simp <;> with_reducible rfl)
            simp only [Hp]
            refine wpAnyH_take (i := 4) (oi := ?oi12) (v := ?vv12) ?hi12 (by kernel_rfl) (by kernel_rfl) (by kernel_rfl) ?hq12 (Or.inl ⟨?hw12, ?hy12⟩) (by assumption) ?rs12
            case hi12 => (simp only [Hg]; rfl)
            case hq12 => exact fun _ _ _ h => h
            case hw12 => rfl
            case hy12 => (intro w hSw; (try dsimp only at hSw); go_simp <;> with_reducible rfl)
            simp only [Hp]
            refine wpAnyH_take (i := 5) (oi := ?oi13) (v := ?vv13) ?hi13 (by kernel_rfl) (by kernel_rfl) (by kernel_rfl) ?hq13 (Or.inl ⟨?hw13, ?hy13⟩) (by assumption) ?rs13
            case hi13 => (simp only [Hg]; rfl)
            case hq13 => exact fun _ _ _ h => h
            case hw13 => rfl
            case hy13 => (intro w hSw; (try dsimp only at hSw); go_simp <;> with_reducible rfl)
            simp only [Hp]
            refine wpAnyH_take (i := 6) (oi := ?oi14) (v := ?vv14) ?hi14 (by kernel_rfl) (by kernel_rfl) (by kernel_rfl) ?hq14 (Or.inl ⟨?hw14, ?hy14⟩) (by assumption) ?rs14
            case hi14 => (simp only [Hg]; rfl)
            case hq14 => exact fun _ _ _ h => h
            case hw14 => rfl
            case hy14 => (intro w hSw; (try dsimp only at hSw); go_simp <;> with_reducible rfl)
            simp only [Hp]
            refine wpAnyH_take (i := 7) (oi := ?oi15) (v := ?vv15) ?hi15 (by kernel_rfl) (by kernel_rfl) (by kernel_rfl) ?hq15 (Or.inl ⟨?hw15, ?hy15⟩) (by assumption) ?rs15
            case hi15 => (simp only [Hg]; rfl)
            case hq15 => exact fun _ _ _ h => h
            case hw15 => rfl
            case hy15 => (intro w hSw; (try dsimp only at hSw); go_simp <;> with_reducible rfl)
            simp only [Hp]
            refine wpAnyH_take (i := 8) (oi := ?oi16) (v := ?vv16) ?hi16 (by kernel_rfl) (by kernel_rfl) (by kernel_rfl) ?hq16 (Or.inl ⟨?hw16, ?hy16⟩) (by assumption) ?rs16
            case hi16 => (simp only [Hg]; rfl)
            case hq16 => exact fun _ _ _ h => h
            case hw16 => rfl
            case hy16 => (intro w hSw; (try dsimp only at hSw); go_simp <;> with_reducible rfl)
            simp only [Hp]
            refine wpAnyH_ready (rs := [0]) (by kernel_rfl) (by simp) (AllReadyH.cons (o := ?oi17) ?hi17 (fun K hK => ?rs17) AllReadyH.nil)
            case hi17 => (simp only [Hg]; rfl)
            go_simp
            (go_at_call 45; (with_reducible refine (ref7_Six _).mono ?_); rintro e w3 ⟨gS, m, d, rfl, hb3, h6⟩; obtain ⟨lo, hi, A, c, l, week, hkx⟩ := h6.kx k hk; have HB3 := Lib.hid hb3; have K3 := Lib.hid hkx; have hgS := h6.lt; have c0 := hkx.c0; have c1 := hkx.c1; have c2 := hkx.c2; have c3 := hkx.c3; have hgz3 : g < w3.heap.size := Nat.lt_of_lt_of_le hgz2 hb3.size)
            refine hK.out _ _ ?hs17 (fun hHeld => ?rt17)
            case hs17 => exact (hb3.cell (p := ⟨g, k, none⟩) hgz2).trans hck2
            clear hK K
            try simp only [Hp]
            refine wpAnyH_take (i := 2) (oi := ?oi18) (v := ?vv18) ?hi18 (by kernel_rfl) (by kernel_rfl) (by kernel_rfl) ?hq18 (Or.inl ⟨?hw18, ?hy18⟩) (by assumption) ?rs18
            case hi18 => (simp only [Hg]; rfl)
            case hq18 => exact fun _ _ _ h => h
            case hw18 => rfl
            case hy18 => (intro w hSw; (try dsimp only at hSw); go_simp <;> with_reducible rfl)
            simp only [Hp]
            refine wpAnyH_ready (rs := [3]) (by kernel_rfl) (by simp) (AllReadyH.cons (o := ?oi19) ?hi19 (fun K hK => ?rs19) AllReadyH.nil)
            case hi19 => (simp only [Hg]; rfl)
            go_simp
            refine hK.out _ _ ?hs19 (fun hHeld => ?rt19)
            case hs19 => assumption
            clear hK K
            try simp only [Hp]
            refine wpAnyH_ready (rs := [9]) (by kernel_rfl) (by simp) (AllReadyH.cons (o := ?oi20) ?hi20 (fun K hK => ?rs20) AllReadyH.nil)
            case hi20 => (simp only [Hg]; rfl)
            go_simp
            (go_at_call 53; (with_reducible refine (HPr.out _ _ _ _ _ _ _ _ K3.out).mono ?_); rintro e w4 ⟨rfl, hb4⟩; have HB4 := Lib.hid hb4)
            refine hK.out _ _ ?hs20 (fun hHeld => ?rt20)
            case hs20 => exact (hb4.cell (p := ⟨g, k, none⟩) hgz3).trans ((hb3.cell (p := ⟨g, k, none⟩) hgz2).trans hck2)
            clear hK K
            try simp only [Hp]
            refine wpAnyH_take (i := 10) (oi := ?oi21) (v := ?vv21) ?hi21 (by kernel_rfl) (by kernel_rfl) (by kernel_rfl) ?hq21 (Or.inl ⟨?hw21, ?hy21⟩) (by assumption) ?rs21
            case hi21 => (simp only [Hg]; rfl)
            case hq21 => exact fun _ _ _ h => h
            case hw21 => rfl
            case hy21 => (intro w hSw; (try dsimp only at hSw); go_simp <;> with_reducible rfl)
            simp only [Hp]
            refine wpAnyH_take (i := 11) (oi := ?oi22) (v := ?vv22) ?hi22 (by kernel_rfl) (by kernel_rfl) (by kernel_rfl) ?hq22 (Or.inl ⟨?hw22, ?hy22⟩) (by assumption) ?rs22
            case hi22 => (simp only [Hg]; rfl)
            case hq22 => exact fun _ _ _ h => h
            case hw22 => rfl
            case hy22 => (intro w hSw; (try dsimp only at hSw); go_simp <;> with_reducible rfl)
            simp only [Hp]
            refine wpAnyH_take (i := 12) (oi := ?oi23) (v := ?vv23) ?hi23 (by kernel_rfl) (by kernel_rfl) (by kernel_rfl) ?hq23 (Or.inl ⟨?hw23, ?hy23⟩) (by assumption) ?rs23
            case hi23 => (simp only [Hg]; rfl)
            case hq23 => exact fun _ _ _ h => h
            case hw23 => rfl
            case hy23 => (intro w hSw; (try dsimp only at hSw); go_simp <;> with_reducible rfl)
            simp only [Hp]
            refine wpAnyH_take (i := 13) (oi := ?oi24) (v := ?vv24) ?hi24 (by kernel_rfl) (by kernel_rfl) (by kernel_rfl) ?hq24 (Or.inl ⟨?hw24, ?hy24⟩) (by assumption) ?rs24
            case hi24 => (simp only [Hg]; rfl)
            case hq24 => exact fun _ _ _ h => h
            case hw24 => rfl
            case hy24 => (intro w hSw; (try dsimp only at hSw); go_simp <;> with_reducible rfl)
            simp only [Hp]
            refine wpAnyH_take (i := 14) (oi := ?oi25) (v := ?vv25) ?hi25 (by kernel_rfl) (by kernel_rfl) (by kernel_rfl) ?hq25 (Or.inl ⟨?hw25, ?hy25⟩) (by assumption) ?rs25
            case hi25 => (simp only [Hg]; rfl)
            case hq25 => exact fun _ _ _ h => h
            case hw25 => rfl
            case hy25 => (intro w hSw; (try dsimp only at hSw); go_simp <;> with_reducible rfl)
            simp only [Hp]
            refine wpAnyH_done (by kernel_rfl) ?_ _

            have B4 : Hid (Below wr.heap.size wr w4) := Lib.hid ((B2.out.drew.trans (HB3.out.mono B2.out.size)).trans (HB4.out.mono (Nat.le_trans B2.out.size HB3.out.size)))
            have X4 := Lib.hid (HX.out.below B4.out hsz)
            have L4 := Lib.hid (HL.out.below B4.out hgz)
            have BW4 : Hid (Below w.heap.size w w4) := Lib.hid (HB.out.trans (B4.out.mono (Nat.le_of_lt hsz)))
            clear c0 c1 c2 c3 c6 c7 hck hck2 hc0
            have Hlast : Hid (txX x (k + 1) = txX x k ++ [T0]) := Lib.hid (by rw [Hsucc.out, Hpc.out, if_neg Hcase.out])
            by_cases hJ0 : J = []
            · have ht : txX x k = [] := Hjn.out.1 hJ0
              have HT0 := Lib.hid ht
              have hne : (!(strOf J).toList.isEmpty) = false := by rw [ByteArray.toList_eq, hJ0]; rfl
              have HJ0 := Lib.hid hJ0
              clear a1 a2 ht hJ0
              go_wp2_with fail
              go_roundw
              case rel =>
                refine ⟨k + 1, by omega, by go_num, ?_, BW4.out, X4.out, L4.out⟩
                rw [Hlast.out, joinS_snoc, if_pos HT0.out]
                congr 1
                apply ByteArray.ext
                simp [strOf, HJ0.out]
              case measure => simp [intOf]; omega
            · have ht : ¬ txX x k = [] := fun h => hJ0 (Hjn.out.2 h)
              have HT0 := Lib.hid ht
              have hne : (!(strOf J).toList.isEmpty) = true := by rw [ByteArray.toList_eq]; simpa [strOf] using hJ0
              clear a3 ht hJ0
              go_wp2_with fail
              go_roundw
              case rel =>
                refine ⟨k + 1, by omega, by go_num, ?_, BW4.out, X4.out, L4.out⟩
                rw [Hlast.out, joinS_snoc, if_neg HT0.out, HJ.out]
                congr 1
                apply ByteArray.ext
                simp [strOf]
              case measure => simp [intOf]; omega
        · have d0 : ((k : Int) == 0) = false := by rw [beq_eq_false_iff_ne]; omega
          have Hcase : Hid (¬ (k = 0 ∧ s0 = 1)) := Lib.hid fun h => hz h.1
          clear h00
          by_cases h3 : k = 3
          · have d3 : ((k : Int) == 3) = true := by rw [beq_iff_eq]; omega
            have hst3 : x.anyDay = st := by rw [Hst.out, if_pos h3]
            have Hst3 := Lib.hid hst3
            have d5 : ((k : Int) == 5) = false := by rw [beq_eq_false_iff_ne]; omega
            clear hst3 h3
            have gz2 : g < wr.drew.heap.size := hgz
            go_wp2_with fail
            refine wp_region_held_drew (S := (fun W => W.cell? ⟨g, k, none⟩ = some (.int .u64 s))) (by kernel_rfl) ?hs26 (fun hHeld => ?rs26)
            case hs26 => exact hck
            refine wpAnyH_take (i := 0) (oi := ?oi27) (v := ?vv27) ?hi27 (by kernel_rfl) (by kernel_rfl) (by kernel_rfl) ?hq27 (Or.inl ⟨?hw27, ?hy27⟩) (by assumption) ?rs27
            case hi27 => (simp only [Hg]; rfl)
            case hq27 => exact fun _ _ _ h => h
            case hw27 => rfl
            case hy27 => (intro w hSw; (try dsimp only at hSw); go_simp <;> with_reducible rfl)
            simp only [Hp]
            refine wpAnyH_take (i := 1) (oi := ?oi28) (v := ?vv28) ?hi28 (by kernel_rfl) (by kernel_rfl) (by kernel_rfl) ?hq28 (Or.inl ⟨?hw28, ?hy28⟩) (by assumption) ?rs28
            case hi28 => (simp only [Hg]; rfl)
            case hq28 => exact fun _ _ _ h => h
            case hw28 => rfl
            case hy28 => (intro w hSw; (try dsimp only at hSw); go_simp <;> with_reducible rfl)
            simp only [Hp]
            refine wpAnyH_take (i := 2) (oi := ?oi29) (v := ?vv29) ?hi29 (by kernel_rfl) (by kernel_rfl) (by kernel_rfl) ?hq29 (Or.inl ⟨?hw29, ?hy29⟩) (by assumption) ?rs29
            case hi29 => (simp only [Hg]; rfl)
            case hq29 => exact fun _ _ _ h => h
            case hw29 => rfl
            case hy29 => (intro w hSw; (try dsimp only at hSw); go_simp <;> with_reducible rfl)
            simp only [Hp]
            refine wpAnyH_take (i := 3) (oi := ?oi30) (v := ?vv30) ?hi30 (by kernel_rfl) (by kernel_rfl) (by kernel_rfl) ?hq30 (Or.inl ⟨?hw30, ?hy30⟩) (by assumption) ?rs30
            case hi30 => (simp only [Hg]; rfl)
            case hq30 => exact fun _ _ _ h => h
            case hw30 => rfl
            case hy30 => (intro w hSw; (try dsimp only at hSw); go_simp <;> with_reducible rfl)
            simp only [Hp]
            refine wpAnyH_take (i := 4) (oi := ?oi31) (v := ?vv31) ?hi31 (by kernel_rfl) (by kernel_rfl) (by kernel_rfl) ?hq31 (Or.inl ⟨?hw31, ?hy31⟩) (by assumption) ?rs31
            case hi31 => (simp only [Hg]; rfl)
            case hq31 => exact fun _ _ _ h => h
            case hw31 => rfl
            case hy31 => (intro w hSw; (try dsimp only at hSw); go_simp <;> with_reducible rfl)
            simp only [Hp]
            refine wpAnyH_ready (rs := [5]) (by kernel_rfl) (by simp) (AllReadyH.cons (o := ?oi32) ?hi32 (fun K hK => ?rs32) AllReadyH.nil)
            case hi32 => (simp only [Hg]; rfl)
            go_simp
            (go_at_call 52; (with_reducible refine (HF.out _).mono ?_); rintro e w2 ⟨rfl, hb2⟩; have HB2 := Lib.hid hb2)
            refine hK.out _ _ ?hs32 (fun hHeld => ?rt32)
            case hs32 => exact (hb2.cell (p := ⟨g, k, none⟩) gz2).trans hck
            clear hK K
            try simp only [Hp]
            refine wpAnyH_take (i := 6) (oi := ?oi33) (v := ?vv33) ?hi33 (by kernel_rfl) (by kernel_rfl) (by kernel_rfl) ?hq33 (Or.inl ⟨?hw33, ?hy33⟩) (by assumption) ?rs33
            case hi33 => (simp only [Hg]; rfl)
            case hq33 => exact fun _ _ _ h => h
            case hw33 => rfl
            case hy33 => (intro w hSw; (try dsimp only at hSw); go_simp <;> with_reducible rfl)
            simp only [Hp]
            refine wpAnyH_take (i := 7) (oi := ?oi34) (v := ?vv34) ?hi34 (by kernel_rfl) (by kernel_rfl) (by kernel_rfl) ?hq34 (Or.inl ⟨?hw34, ?hy34⟩) (by assumption) ?rs34
            case hi34 => (simp only [Hg]; rfl)
            case hq34 => exact fun _ _ _ h => h
            case hw34 => rfl
            case hy34 => (intro w hSw; (try dsimp only at hSw); go_simp <;> with_reducible rfl)
            simp only [Hp]
            refine wpAnyH_done (by kernel_rfl) ?_ _

            have B2 : Hid (Below wr.heap.size wr w2) := Lib.hid ((Below.refl _ wr).drew.trans HB2.out)
            have hck2 : w2.cell? ⟨g, k, none⟩ = some (.int .u64 s) := (B2.out.cell (p := ⟨g, k, none⟩) hgz).trans hck
            have hsz2 : w.heap.size < w2.heap.size := Nat.lt_of_lt_of_le hsz B2.out.size
            have hgz2 : g < w2.drew.heap.size := Nat.lt_of_lt_of_le hgz B2.out.size
            have X2 := Lib.hid (HX.out.below B2.out hsz)
            have L2 := Lib.hid (HL.out.below B2.out hgz)
            have c6 : w2.cell? ⟨w.heap.size, 6, none⟩ = some (.bool x.anyDay) := X2.out.cell 6
            have c7 : w2.cell? ⟨w.heap.size, 7, none⟩ = some (.bool x.anyWeek) := X2.out.cell 7
            rw [Hst3.out] at c6
            go_wp2_with fail
            refine wp_region_held_drew (S := (fun W => W.cell? ⟨g, k, none⟩ = some (.int .u64 s))) (by kernel_rfl) ?hs35 (fun hHeld => ?rs35)
            case hs35 => exact hck2
            refine wpAnyH_take (i := 1) (oi := ?oi36) (v := ?vv36) ?hi36 (by kernel_rfl) (by kernel_rfl) (by kernel_rfl) ?hq36 (Or.inl ⟨?hw36, ?hy36⟩) (by assumption) ?rs36
            case hi36 => (simp only [Hg]; rfl)
            case hq36 => exact fun _ _ _ h => h
            case hw36 => rfl
            case hy36 => (intro w hSw; (try dsimp only at hSw); go_simp <;> with_reducible rfl)
            simp only [Hp]
            refine wpAnyH_take (i := 4) (oi := ?oi37) (v := ?vv37) ?hi37 (by kernel_rfl) (by kernel_rfl) (by kernel_rfl) ?hq37 (Or.inl ⟨?hw37, ?hy37⟩) (by assumption) ?rs37
            case hi37 => (simp only [Hg]; rfl)
            case hq37 => exact fun _ _ _ h => h
            case hw37 => rfl
            case hy37 => (intro w hSw; (try dsimp only at hSw); go_simp <;> with_reducible rfl)
            simp only [Hp]
            refine wpAnyH_take (i := 5) (oi := ?oi38) (v := ?vv38) ?hi38 (by kernel_rfl) (by kernel_rfl) (by kernel_rfl) ?hq38 (Or.inl ⟨?hw38, ?hy38⟩) (by assumption) ?rs38
            case hi38 => (simp only [Hg]; rfl)
            case hq38 => exact fun _ _ _ h => h
            case hw38 => rfl
            case hy38 => (intro w hSw; (try dsimp only at hSw); go_simp <;> with_reducible rfl)
            simp only [Hp]
            refine wpAnyH_take (i := 6) (oi := ?oi39) (v := ?vv39) ?hi39 (by kernel_rfl) (by kernel_rfl) (by kernel_rfl) ?hq39 (Or.inl ⟨?hw39, ?hy39⟩) (by assumption) ?rs39
            case hi39 => (simp only [Hg]; rfl)
            case hq39 => exact fun _ _ _ h => h
            case hw39 => rfl
            case hy39 => (intro w hSw; (try dsimp only at hSw); go_simp <;> with_reducible rfl)
            simp only [Hp]
            refine wpAnyH_take (i := 7) (oi := ?oi40) (v := ?vv40) ?hi40 (by kernel_rfl) (by kernel_rfl) (by kernel_rfl) ?hq40 (Or.inl ⟨?hw40, ?hy40⟩) (by assumption) ?rs40
            case hi40 => (simp only [Hg]; rfl)
            case hq40 => exact fun _ _ _ h => h
            case hw40 => rfl
            case hy40 => (intro w hSw; (try dsimp only at hSw); go_simp <;> with_reducible rfl)
            simp only [Hp]
            refine wpAnyH_take (i := 8) (oi := ?oi41) (v := ?vv41) ?hi41 (by kernel_rfl) (by kernel_rfl) (by kernel_rfl) ?hq41 (Or.inl ⟨?hw41, ?hy41⟩) (by assumption) ?rs41
            case hi41 => (simp only [Hg]; rfl)
            case hq41 => exact fun _ _ _ h => h
            case hw41 => rfl
            case hy41 => (intro w hSw; (try dsimp only at hSw); go_simp <;> with_reducible rfl)
            simp only [Hp]
            refine wpAnyH_ready (rs := [0]) (by kernel_rfl) (by simp) (AllReadyH.cons (o := ?oi42) ?hi42 (fun K hK => ?rs42) AllReadyH.nil)
            case hi42 => (simp only [Hg]; rfl)
            go_simp
            (go_at_call 45; (with_reducible refine (ref7_Six _).mono ?_); rintro e w3 ⟨gS, m, d, rfl, hb3, h6⟩; obtain ⟨lo, hi, A, c, l, week, hkx⟩ := h6.kx k hk; have HB3 := Lib.hid hb3; have K3 := Lib.hid hkx; have hgS := h6.lt; have c0 := hkx.c0; have c1 := hkx.c1; have c2 := hkx.c2; have c3 := hkx.c3; have hgz3 : g < w3.heap.size := Nat.lt_of_lt_of_le hgz2 hb3.size)
            refine hK.out _ _ ?hs42 (fun hHeld => ?rt42)
            case hs42 => exact (hb3.cell (p := ⟨g, k, none⟩) hgz2).trans hck2
            clear hK K
            try simp only [Hp]
            refine wpAnyH_take (i := 2) (oi := ?oi43) (v := ?vv43) ?hi43 (by kernel_rfl) (by kernel_rfl) (by kernel_rfl) ?hq43 (Or.inl ⟨?hw43, ?hy43⟩) (by assumption) ?rs43
            case hi43 => (simp only [Hg]; rfl)
            case hq43 => exact fun _ _ _ h => h
            case hw43 => rfl
            case hy43 => (intro w hSw; (try dsimp only at hSw); go_simp <;> with_reducible rfl)
            simp only [Hp]
            refine wpAnyH_ready (rs := [3]) (by kernel_rfl) (by simp) (AllReadyH.cons (o := ?oi44) ?hi44 (fun K hK => ?rs44) AllReadyH.nil)
            case hi44 => (simp only [Hg]; rfl)
            go_simp
            refine hK.out _ _ ?hs44 (fun hHeld => ?rt44)
            case hs44 => assumption
            clear hK K
            try simp only [Hp]
            refine wpAnyH_ready (rs := [9]) (by kernel_rfl) (by simp) (AllReadyH.cons (o := ?oi45) ?hi45 (fun K hK => ?rs45) AllReadyH.nil)
            case hi45 => (simp only [Hg]; rfl)
            go_simp
            (go_at_call 53; (with_reducible refine (HPr.out _ _ _ _ _ _ _ _ K3.out).mono ?_); rintro e w4 ⟨rfl, hb4⟩; have HB4 := Lib.hid hb4)
            refine hK.out _ _ ?hs45 (fun hHeld => ?rt45)
            case hs45 => exact (hb4.cell (p := ⟨g, k, none⟩) hgz3).trans ((hb3.cell (p := ⟨g, k, none⟩) hgz2).trans hck2)
            clear hK K
            try simp only [Hp]
            refine wpAnyH_take (i := 10) (oi := ?oi46) (v := ?vv46) ?hi46 (by kernel_rfl) (by kernel_rfl) (by kernel_rfl) ?hq46 (Or.inl ⟨?hw46, ?hy46⟩) (by assumption) ?rs46
            case hi46 => (simp only [Hg]; rfl)
            case hq46 => exact fun _ _ _ h => h
            case hw46 => rfl
            case hy46 => (intro w hSw; (try dsimp only at hSw); go_simp <;> with_reducible rfl)
            simp only [Hp]
            refine wpAnyH_take (i := 11) (oi := ?oi47) (v := ?vv47) ?hi47 (by kernel_rfl) (by kernel_rfl) (by kernel_rfl) ?hq47 (Or.inl ⟨?hw47, ?hy47⟩) (by assumption) ?rs47
            case hi47 => (simp only [Hg]; rfl)
            case hq47 => exact fun _ _ _ h => h
            case hw47 => rfl
            case hy47 => (intro w hSw; (try dsimp only at hSw); go_simp <;> with_reducible rfl)
            simp only [Hp]
            refine wpAnyH_take (i := 12) (oi := ?oi48) (v := ?vv48) ?hi48 (by kernel_rfl) (by kernel_rfl) (by kernel_rfl) ?hq48 (Or.inl ⟨?hw48, ?hy48⟩) (by assumption) ?rs48
            case hi48 => (simp only [Hg]; rfl)
            case hq48 => exact fun _ _ _ h => h
            case hw48 => rfl
            case hy48 => (intro w hSw; (try dsimp only at hSw); go_simp <;> with_reducible rfl)
            simp only [Hp]
            refine wpAnyH_take (i := 13) (oi := ?oi49) (v := ?vv49) ?hi49 (by kernel_rfl) (by kernel_rfl) (by kernel_rfl) ?hq49 (Or.inl ⟨?hw49, ?hy49⟩) (by assumption) ?rs49
            case hi49 => (simp only [Hg]; rfl)
            case hq49 => exact fun _ _ _ h => h
            case hw49 => rfl
            case hy49 => (intro w hSw; (try dsimp only at hSw); go_simp <;> with_reducible rfl)
            simp only [Hp]
            refine wpAnyH_take (i := 14) (oi := ?oi50) (v := ?vv50) ?hi50 (by kernel_rfl) (by kernel_rfl) (by kernel_rfl) ?hq50 (Or.inl ⟨?hw50, ?hy50⟩) (by assumption) ?rs50
            case hi50 => (simp only [Hg]; rfl)
            case hq50 => exact fun _ _ _ h => h
            case hw50 => rfl
            case hy50 => (intro w hSw; (try dsimp only at hSw); go_simp <;> with_reducible rfl)
            simp only [Hp]
            refine wpAnyH_done (by kernel_rfl) ?_ _

            have B4 : Hid (Below wr.heap.size wr w4) := Lib.hid ((B2.out.drew.trans (HB3.out.mono B2.out.size)).trans (HB4.out.mono (Nat.le_trans B2.out.size HB3.out.size)))
            have X4 := Lib.hid (HX.out.below B4.out hsz)
            have L4 := Lib.hid (HL.out.below B4.out hgz)
            have BW4 : Hid (Below w.heap.size w w4) := Lib.hid (HB.out.trans (B4.out.mono (Nat.le_of_lt hsz)))
            clear c0 c1 c2 c3 c6 c7 hck hck2 hc0
            have Hlast : Hid (txX x (k + 1) = txX x k ++ [T0]) := Lib.hid (by rw [Hsucc.out, Hpc.out, if_neg Hcase.out])
            by_cases hJ0 : J = []
            · have ht : txX x k = [] := Hjn.out.1 hJ0
              have HT0 := Lib.hid ht
              have hne : (!(strOf J).toList.isEmpty) = false := by rw [ByteArray.toList_eq, hJ0]; rfl
              have HJ0 := Lib.hid hJ0
              clear a1 a2 ht hJ0
              go_wp2_with fail
              go_roundw
              case rel =>
                refine ⟨k + 1, by omega, by go_num, ?_, BW4.out, X4.out, L4.out⟩
                rw [Hlast.out, joinS_snoc, if_pos HT0.out]
                congr 1
                apply ByteArray.ext
                simp [strOf, HJ0.out]
              case measure => simp [intOf]; omega
            · have ht : ¬ txX x k = [] := fun h => hJ0 (Hjn.out.2 h)
              have HT0 := Lib.hid ht
              have hne : (!(strOf J).toList.isEmpty) = true := by rw [ByteArray.toList_eq]; simpa [strOf] using hJ0
              clear a3 ht hJ0
              go_wp2_with fail
              go_roundw
              case rel =>
                refine ⟨k + 1, by omega, by go_num, ?_, BW4.out, X4.out, L4.out⟩
                rw [Hlast.out, joinS_snoc, if_neg HT0.out, HJ.out]
                congr 1
                apply ByteArray.ext
                simp [strOf]
              case measure => simp [intOf]; omega
          · have d3 : ((k : Int) == 3) = false := by rw [beq_eq_false_iff_ne]; omega
            by_cases h5 : k = 5
            · have d5 : ((k : Int) == 5) = true := by rw [beq_iff_eq]; omega
              have hst5 : x.anyWeek = st := by rw [Hst.out, if_neg h3, if_pos h5]
              have Hst5 := Lib.hid hst5
              clear hst5 h5
              have gz2 : g < wr.drew.heap.size := hgz
              go_wp2_with fail
              refine wp_region_held_drew (S := (fun W => W.cell? ⟨g, k, none⟩ = some (.int .u64 s))) (by kernel_rfl) ?hs51 (fun hHeld => ?rs51)
              case hs51 => exact hck
              refine wpAnyH_take (i := 0) (oi := ?oi52) (v := ?vv52) ?hi52 (by kernel_rfl) (by kernel_rfl) (by kernel_rfl) ?hq52 (Or.inl ⟨?hw52, ?hy52⟩) (by assumption) ?rs52
              case hi52 => (simp only [Hg]; rfl)
              case hq52 => exact fun _ _ _ h => h
              case hw52 => rfl
              case hy52 => (intro w hSw; (try dsimp only at hSw); go_simp <;> with_reducible rfl)
              simp only [Hp]
              refine wpAnyH_take (i := 1) (oi := ?oi53) (v := ?vv53) ?hi53 (by kernel_rfl) (by kernel_rfl) (by kernel_rfl) ?hq53 (Or.inl ⟨?hw53, ?hy53⟩) (by assumption) ?rs53
              case hi53 => (simp only [Hg]; rfl)
              case hq53 => exact fun _ _ _ h => h
              case hw53 => rfl
              case hy53 => (intro w hSw; (try dsimp only at hSw); go_simp <;> with_reducible rfl)
              simp only [Hp]
              refine wpAnyH_take (i := 2) (oi := ?oi54) (v := ?vv54) ?hi54 (by kernel_rfl) (by kernel_rfl) (by kernel_rfl) ?hq54 (Or.inl ⟨?hw54, ?hy54⟩) (by assumption) ?rs54
              case hi54 => (simp only [Hg]; rfl)
              case hq54 => exact fun _ _ _ h => h
              case hw54 => rfl
              case hy54 => (intro w hSw; (try dsimp only at hSw); go_simp <;> with_reducible rfl)
              simp only [Hp]
              refine wpAnyH_take (i := 3) (oi := ?oi55) (v := ?vv55) ?hi55 (by kernel_rfl) (by kernel_rfl) (by kernel_rfl) ?hq55 (Or.inl ⟨?hw55, ?hy55⟩) (by assumption) ?rs55
              case hi55 => (simp only [Hg]; rfl)
              case hq55 => exact fun _ _ _ h => h
              case hw55 => rfl
              case hy55 => (intro w hSw; (try dsimp only at hSw); go_simp <;> with_reducible rfl)
              simp only [Hp]
              refine wpAnyH_take (i := 4) (oi := ?oi56) (v := ?vv56) ?hi56 (by kernel_rfl) (by kernel_rfl) (by kernel_rfl) ?hq56 (Or.inl ⟨?hw56, ?hy56⟩) (by assumption) ?rs56
              case hi56 => (simp only [Hg]; rfl)
              case hq56 => exact fun _ _ _ h => h
              case hw56 => rfl
              case hy56 => (intro w hSw; (try dsimp only at hSw); go_simp <;> with_reducible rfl)
              simp only [Hp]
              refine wpAnyH_ready (rs := [5]) (by kernel_rfl) (by simp) (AllReadyH.cons (o := ?oi57) ?hi57 (fun K hK => ?rs57) AllReadyH.nil)
              case hi57 => (simp only [Hg]; rfl)
              go_simp
              (go_at_call 52; (with_reducible refine (HF.out _).mono ?_); rintro e w2 ⟨rfl, hb2⟩; have HB2 := Lib.hid hb2)
              refine hK.out _ _ ?hs57 (fun hHeld => ?rt57)
              case hs57 => exact (hb2.cell (p := ⟨g, k, none⟩) gz2).trans hck
              clear hK K
              try simp only [Hp]
              refine wpAnyH_take (i := 6) (oi := ?oi58) (v := ?vv58) ?hi58 (by kernel_rfl) (by kernel_rfl) (by kernel_rfl) ?hq58 (Or.inl ⟨?hw58, ?hy58⟩) (by assumption) ?rs58
              case hi58 => (simp only [Hg]; rfl)
              case hq58 => exact fun _ _ _ h => h
              case hw58 => rfl
              case hy58 => (intro w hSw; (try dsimp only at hSw); go_simp <;> with_reducible rfl)
              simp only [Hp]
              refine wpAnyH_take (i := 7) (oi := ?oi59) (v := ?vv59) ?hi59 (by kernel_rfl) (by kernel_rfl) (by kernel_rfl) ?hq59 (Or.inl ⟨?hw59, ?hy59⟩) (by assumption) ?rs59
              case hi59 => (simp only [Hg]; rfl)
              case hq59 => exact fun _ _ _ h => h
              case hw59 => rfl
              case hy59 => (intro w hSw; (try dsimp only at hSw); go_simp <;> with_reducible rfl)
              simp only [Hp]
              refine wpAnyH_done (by kernel_rfl) ?_ _

              have B2 : Hid (Below wr.heap.size wr w2) := Lib.hid ((Below.refl _ wr).drew.trans HB2.out)
              have hck2 : w2.cell? ⟨g, k, none⟩ = some (.int .u64 s) := (B2.out.cell (p := ⟨g, k, none⟩) hgz).trans hck
              have hsz2 : w.heap.size < w2.heap.size := Nat.lt_of_lt_of_le hsz B2.out.size
              have hgz2 : g < w2.drew.heap.size := Nat.lt_of_lt_of_le hgz B2.out.size
              have X2 := Lib.hid (HX.out.below B2.out hsz)
              have L2 := Lib.hid (HL.out.below B2.out hgz)
              have c6 : w2.cell? ⟨w.heap.size, 6, none⟩ = some (.bool x.anyDay) := X2.out.cell 6
              have c7 : w2.cell? ⟨w.heap.size, 7, none⟩ = some (.bool x.anyWeek) := X2.out.cell 7
              rw [Hst5.out] at c7
              go_wp2_with fail
              refine wp_region_held_drew (S := (fun W => W.cell? ⟨g, k, none⟩ = some (.int .u64 s))) (by kernel_rfl) ?hs60 (fun hHeld => ?rs60)
              case hs60 => exact hck2
              refine wpAnyH_take (i := 1) (oi := ?oi61) (v := ?vv61) ?hi61 (by kernel_rfl) (by kernel_rfl) (by kernel_rfl) ?hq61 (Or.inl ⟨?hw61, ?hy61⟩) (by assumption) ?rs61
              case hi61 => (simp only [Hg]; rfl)
              case hq61 => exact fun _ _ _ h => h
              case hw61 => rfl
              case hy61 => (intro w hSw; (try dsimp only at hSw); go_simp <;> with_reducible rfl)
              simp only [Hp]
              refine wpAnyH_take (i := 4) (oi := ?oi62) (v := ?vv62) ?hi62 (by kernel_rfl) (by kernel_rfl) (by kernel_rfl) ?hq62 (Or.inl ⟨?hw62, ?hy62⟩) (by assumption) ?rs62
              case hi62 => (simp only [Hg]; rfl)
              case hq62 => exact fun _ _ _ h => h
              case hw62 => rfl
              case hy62 => (intro w hSw; (try dsimp only at hSw); go_simp <;> with_reducible rfl)
              simp only [Hp]
              refine wpAnyH_take (i := 5) (oi := ?oi63) (v := ?vv63) ?hi63 (by kernel_rfl) (by kernel_rfl) (by kernel_rfl) ?hq63 (Or.inl ⟨?hw63, ?hy63⟩) (by assumption) ?rs63
              case hi63 => (simp only [Hg]; rfl)
              case hq63 => exact fun _ _ _ h => h
              case hw63 => rfl
              case hy63 => (intro w hSw; (try dsimp only at hSw); go_simp <;> with_reducible rfl)
              simp only [Hp]
              refine wpAnyH_take (i := 6) (oi := ?oi64) (v := ?vv64) ?hi64 (by kernel_rfl) (by kernel_rfl) (by kernel_rfl) ?hq64 (Or.inl ⟨?hw64, ?hy64⟩) (by assumption) ?rs64
              case hi64 => (simp only [Hg]; rfl)
              case hq64 => exact fun _ _ _ h => h
              case hw64 => rfl
              case hy64 => (intro w hSw; (try dsimp only at hSw); go_simp <;> with_reducible rfl)
              simp only [Hp]
              refine wpAnyH_take (i := 7) (oi := ?oi65) (v := ?vv65) ?hi65 (by kernel_rfl) (by kernel_rfl) (by kernel_rfl) ?hq65 (Or.inl ⟨?hw65, ?hy65⟩) (by assumption) ?rs65
              case hi65 => (simp only [Hg]; rfl)
              case hq65 => exact fun _ _ _ h => h
              case hw65 => rfl
              case hy65 => (intro w hSw; (try dsimp only at hSw); go_simp <;> with_reducible rfl)
              simp only [Hp]
              refine wpAnyH_take (i := 8) (oi := ?oi66) (v := ?vv66) ?hi66 (by kernel_rfl) (by kernel_rfl) (by kernel_rfl) ?hq66 (Or.inl ⟨?hw66, ?hy66⟩) (by assumption) ?rs66
              case hi66 => (simp only [Hg]; rfl)
              case hq66 => exact fun _ _ _ h => h
              case hw66 => rfl
              case hy66 => (intro w hSw; (try dsimp only at hSw); go_simp <;> with_reducible rfl)
              simp only [Hp]
              refine wpAnyH_ready (rs := [0]) (by kernel_rfl) (by simp) (AllReadyH.cons (o := ?oi67) ?hi67 (fun K hK => ?rs67) AllReadyH.nil)
              case hi67 => (simp only [Hg]; rfl)
              go_simp
              (go_at_call 45; (with_reducible refine (ref7_Six _).mono ?_); rintro e w3 ⟨gS, m, d, rfl, hb3, h6⟩; obtain ⟨lo, hi, A, c, l, week, hkx⟩ := h6.kx k hk; have HB3 := Lib.hid hb3; have K3 := Lib.hid hkx; have hgS := h6.lt; have c0 := hkx.c0; have c1 := hkx.c1; have c2 := hkx.c2; have c3 := hkx.c3; have hgz3 : g < w3.heap.size := Nat.lt_of_lt_of_le hgz2 hb3.size)
              refine hK.out _ _ ?hs67 (fun hHeld => ?rt67)
              case hs67 => exact (hb3.cell (p := ⟨g, k, none⟩) hgz2).trans hck2
              clear hK K
              try simp only [Hp]
              refine wpAnyH_take (i := 2) (oi := ?oi68) (v := ?vv68) ?hi68 (by kernel_rfl) (by kernel_rfl) (by kernel_rfl) ?hq68 (Or.inl ⟨?hw68, ?hy68⟩) (by assumption) ?rs68
              case hi68 => (simp only [Hg]; rfl)
              case hq68 => exact fun _ _ _ h => h
              case hw68 => rfl
              case hy68 => (intro w hSw; (try dsimp only at hSw); go_simp <;> with_reducible rfl)
              simp only [Hp]
              refine wpAnyH_ready (rs := [3]) (by kernel_rfl) (by simp) (AllReadyH.cons (o := ?oi69) ?hi69 (fun K hK => ?rs69) AllReadyH.nil)
              case hi69 => (simp only [Hg]; rfl)
              go_simp
              refine hK.out _ _ ?hs69 (fun hHeld => ?rt69)
              case hs69 => assumption
              clear hK K
              try simp only [Hp]
              refine wpAnyH_ready (rs := [9]) (by kernel_rfl) (by simp) (AllReadyH.cons (o := ?oi70) ?hi70 (fun K hK => ?rs70) AllReadyH.nil)
              case hi70 => (simp only [Hg]; rfl)
              go_simp
              (go_at_call 53; (with_reducible refine (HPr.out _ _ _ _ _ _ _ _ K3.out).mono ?_); rintro e w4 ⟨rfl, hb4⟩; have HB4 := Lib.hid hb4)
              refine hK.out _ _ ?hs70 (fun hHeld => ?rt70)
              case hs70 => exact (hb4.cell (p := ⟨g, k, none⟩) hgz3).trans ((hb3.cell (p := ⟨g, k, none⟩) hgz2).trans hck2)
              clear hK K
              try simp only [Hp]
              refine wpAnyH_take (i := 10) (oi := ?oi71) (v := ?vv71) ?hi71 (by kernel_rfl) (by kernel_rfl) (by kernel_rfl) ?hq71 (Or.inl ⟨?hw71, ?hy71⟩) (by assumption) ?rs71
              case hi71 => (simp only [Hg]; rfl)
              case hq71 => exact fun _ _ _ h => h
              case hw71 => rfl
              case hy71 => (intro w hSw; (try dsimp only at hSw); go_simp <;> with_reducible rfl)
              simp only [Hp]
              refine wpAnyH_take (i := 11) (oi := ?oi72) (v := ?vv72) ?hi72 (by kernel_rfl) (by kernel_rfl) (by kernel_rfl) ?hq72 (Or.inl ⟨?hw72, ?hy72⟩) (by assumption) ?rs72
              case hi72 => (simp only [Hg]; rfl)
              case hq72 => exact fun _ _ _ h => h
              case hw72 => rfl
              case hy72 => (intro w hSw; (try dsimp only at hSw); go_simp <;> with_reducible rfl)
              simp only [Hp]
              refine wpAnyH_take (i := 12) (oi := ?oi73) (v := ?vv73) ?hi73 (by kernel_rfl) (by kernel_rfl) (by kernel_rfl) ?hq73 (Or.inl ⟨?hw73, ?hy73⟩) (by assumption) ?rs73
              case hi73 => (simp only [Hg]; rfl)
              case hq73 => exact fun _ _ _ h => h
              case hw73 => rfl
              case hy73 => (intro w hSw; (try dsimp only at hSw); go_simp <;> with_reducible rfl)
              simp only [Hp]
              refine wpAnyH_take (i := 13) (oi := ?oi74) (v := ?vv74) ?hi74 (by kernel_rfl) (by kernel_rfl) (by kernel_rfl) ?hq74 (Or.inl ⟨?hw74, ?hy74⟩) (by assumption) ?rs74
              case hi74 => (simp only [Hg]; rfl)
              case hq74 => exact fun _ _ _ h => h
              case hw74 => rfl
              case hy74 => (intro w hSw; (try dsimp only at hSw); go_simp <;> with_reducible rfl)
              simp only [Hp]
              refine wpAnyH_take (i := 14) (oi := ?oi75) (v := ?vv75) ?hi75 (by kernel_rfl) (by kernel_rfl) (by kernel_rfl) ?hq75 (Or.inl ⟨?hw75, ?hy75⟩) (by assumption) ?rs75
              case hi75 => (simp only [Hg]; rfl)
              case hq75 => exact fun _ _ _ h => h
              case hw75 => rfl
              case hy75 => (intro w hSw; (try dsimp only at hSw); go_simp <;> with_reducible rfl)
              simp only [Hp]
              refine wpAnyH_done (by kernel_rfl) ?_ _

              have B4 : Hid (Below wr.heap.size wr w4) := Lib.hid ((B2.out.drew.trans (HB3.out.mono B2.out.size)).trans (HB4.out.mono (Nat.le_trans B2.out.size HB3.out.size)))
              have X4 := Lib.hid (HX.out.below B4.out hsz)
              have L4 := Lib.hid (HL.out.below B4.out hgz)
              have BW4 : Hid (Below w.heap.size w w4) := Lib.hid (HB.out.trans (B4.out.mono (Nat.le_of_lt hsz)))
              clear c0 c1 c2 c3 c6 c7 hck hck2 hc0
              have Hlast : Hid (txX x (k + 1) = txX x k ++ [T0]) := Lib.hid (by rw [Hsucc.out, Hpc.out, if_neg Hcase.out])
              by_cases hJ0 : J = []
              · have ht : txX x k = [] := Hjn.out.1 hJ0
                have HT0 := Lib.hid ht
                have hne : (!(strOf J).toList.isEmpty) = false := by rw [ByteArray.toList_eq, hJ0]; rfl
                have HJ0 := Lib.hid hJ0
                clear a1 a2 ht hJ0
                go_wp2_with fail
                go_roundw
                case rel =>
                  refine ⟨k + 1, by omega, by go_num, ?_, BW4.out, X4.out, L4.out⟩
                  rw [Hlast.out, joinS_snoc, if_pos HT0.out]
                  congr 1
                  apply ByteArray.ext
                  simp [strOf, HJ0.out]
                case measure => simp [intOf]; omega
              · have ht : ¬ txX x k = [] := fun h => hJ0 (Hjn.out.2 h)
                have HT0 := Lib.hid ht
                have hne : (!(strOf J).toList.isEmpty) = true := by rw [ByteArray.toList_eq]; simpa [strOf] using hJ0
                clear a3 ht hJ0
                go_wp2_with fail
                go_roundw
                case rel =>
                  refine ⟨k + 1, by omega, by go_num, ?_, BW4.out, X4.out, L4.out⟩
                  rw [Hlast.out, joinS_snoc, if_neg HT0.out, HJ.out]
                  congr 1
                  apply ByteArray.ext
                  simp [strOf]
                case measure => simp [intOf]; omega
            · have d5 : ((k : Int) == 5) = false := by rw [beq_eq_false_iff_ne]; omega
              have hst' : st = decide (s = fu) := by rw [Hst.out, if_neg h3, if_neg h5]
              have Hst2 := Lib.hid hst'
              clear hst'
              have hse : ((s : Int) == (fu : Int)) = st := by rw [Hst2.out, Bool.eq_iff_iff, beq_iff_eq, decide_eq_true_eq]; omega
              have gz2 : g < wr.drew.heap.size := hgz
              go_wp2_with fail
              refine wp_region_held_drew (S := (fun W => W.cell? ⟨g, k, none⟩ = some (.int .u64 s))) (by kernel_rfl) ?hs76 (fun hHeld => ?rs76)
              case hs76 => exact hck
              refine wpAnyH_take (i := 0) (oi := ?oi77) (v := ?vv77) ?hi77 (by kernel_rfl) (by kernel_rfl) (by kernel_rfl) ?hq77 (Or.inl ⟨?hw77, ?hy77⟩) (by assumption) ?rs77
              case hi77 => (simp only [Hg]; rfl)
              case hq77 => exact fun _ _ _ h => h
              case hw77 => rfl
              case hy77 => (intro w hSw; (try dsimp only at hSw); go_simp <;> with_reducible rfl)
              simp only [Hp]
              refine wpAnyH_take (i := 1) (oi := ?oi78) (v := ?vv78) ?hi78 (by kernel_rfl) (by kernel_rfl) (by kernel_rfl) ?hq78 (Or.inl ⟨?hw78, ?hy78⟩) (by assumption) ?rs78
              case hi78 => (simp only [Hg]; rfl)
              case hq78 => exact fun _ _ _ h => h
              case hw78 => rfl
              case hy78 => (intro w hSw; (try dsimp only at hSw); go_simp <;> with_reducible rfl)
              simp only [Hp]
              refine wpAnyH_take (i := 2) (oi := ?oi79) (v := ?vv79) ?hi79 (by kernel_rfl) (by kernel_rfl) (by kernel_rfl) ?hq79 (Or.inl ⟨?hw79, ?hy79⟩) (by assumption) ?rs79
              case hi79 => (simp only [Hg]; rfl)
              case hq79 => exact fun _ _ _ h => h
              case hw79 => rfl
              case hy79 => (intro w hSw; (try dsimp only at hSw); go_simp <;> with_reducible rfl)
              simp only [Hp]
              refine wpAnyH_take (i := 3) (oi := ?oi80) (v := ?vv80) ?hi80 (by kernel_rfl) (by kernel_rfl) (by kernel_rfl) ?hq80 (Or.inl ⟨?hw80, ?hy80⟩) (by assumption) ?rs80
              case hi80 => (simp only [Hg]; rfl)
              case hq80 => exact fun _ _ _ h => h
              case hw80 => rfl
              case hy80 => (intro w hSw; (try dsimp only at hSw); go_simp <;> with_reducible rfl)
              simp only [Hp]
              refine wpAnyH_take (i := 4) (oi := ?oi81) (v := ?vv81) ?hi81 (by kernel_rfl) (by kernel_rfl) (by kernel_rfl) ?hq81 (Or.inl ⟨?hw81, ?hy81⟩) (by assumption) ?rs81
              case hi81 => (simp only [Hg]; rfl)
              case hq81 => exact fun _ _ _ h => h
              case hw81 => rfl
              case hy81 => (intro w hSw; (try dsimp only at hSw); go_simp <;> with_reducible rfl)
              simp only [Hp]
              refine wpAnyH_ready (rs := [5]) (by kernel_rfl) (by simp) (AllReadyH.cons (o := ?oi82) ?hi82 (fun K hK => ?rs82) AllReadyH.nil)
              case hi82 => (simp only [Hg]; rfl)
              go_simp
              (go_at_call 52; (with_reducible refine (HF.out _).mono ?_); rintro e w2 ⟨rfl, hb2⟩; have HB2 := Lib.hid hb2)
              refine hK.out _ _ ?hs82 (fun hHeld => ?rt82)
              case hs82 => exact (hb2.cell (p := ⟨g, k, none⟩) gz2).trans hck
              clear hK K
              try simp only [Hp]
              refine wpAnyH_take (i := 6) (oi := ?oi83) (v := ?vv83) ?hi83 (by kernel_rfl) (by kernel_rfl) (by kernel_rfl) ?hq83 (Or.inl ⟨?hw83, ?hy83⟩) (by assumption) ?rs83
              case hi83 => (simp only [Hg]; rfl)
              case hq83 => exact fun _ _ _ h => h
              case hw83 => rfl
              case hy83 => (intro w hSw; (try dsimp only at hSw); go_simp <;> with_reducible rfl)
              simp only [Hp]
              refine wpAnyH_take (i := 7) (oi := ?oi84) (v := ?vv84) ?hi84 (by kernel_rfl) (by kernel_rfl) (by kernel_rfl) ?hq84 (Or.inl ⟨?hw84, ?hy84⟩) (by assumption) ?rs84
              case hi84 => (simp only [Hg]; rfl)
              case hq84 => exact fun _ _ _ h => h
              case hw84 => rfl
              case hy84 => (intro w hSw; (try dsimp only at hSw); go_simp <;> with_reducible rfl)
              simp only [Hp]
              refine wpAnyH_done (by kernel_rfl) ?_ _

              have B2 : Hid (Below wr.heap.size wr w2) := Lib.hid ((Below.refl _ wr).drew.trans HB2.out)
              have hck2 : w2.cell? ⟨g, k, none⟩ = some (.int .u64 s) := (B2.out.cell (p := ⟨g, k, none⟩) hgz).trans hck
              have hsz2 : w.heap.size < w2.heap.size := Nat.lt_of_lt_of_le hsz B2.out.size
              have hgz2 : g < w2.drew.heap.size := Nat.lt_of_lt_of_le hgz B2.out.size
              have X2 := Lib.hid (HX.out.below B2.out hsz)
              have L2 := Lib.hid (HL.out.below B2.out hgz)
              have c6 : w2.cell? ⟨w.heap.size, 6, none⟩ = some (.bool x.anyDay) := X2.out.cell 6
              have c7 : w2.cell? ⟨w.heap.size, 7, none⟩ = some (.bool x.anyWeek) := X2.out.cell 7
              clear hse
              go_wp2_with fail
              refine wp_region_held_drew (S := (fun W => W.cell? ⟨g, k, none⟩ = some (.int .u64 s))) (by kernel_rfl) ?hs85 (fun hHeld => ?rs85)
              case hs85 => exact hck2
              refine wpAnyH_take (i := 1) (oi := ?oi86) (v := ?vv86) ?hi86 (by kernel_rfl) (by kernel_rfl) (by kernel_rfl) ?hq86 (Or.inl ⟨?hw86, ?hy86⟩) (by assumption) ?rs86
              case hi86 => (simp only [Hg]; rfl)
              case hq86 => exact fun _ _ _ h => h
              case hw86 => rfl
              case hy86 => (intro w hSw; (try dsimp only at hSw); go_simp <;> with_reducible rfl)
              simp only [Hp]
              refine wpAnyH_take (i := 4) (oi := ?oi87) (v := ?vv87) ?hi87 (by kernel_rfl) (by kernel_rfl) (by kernel_rfl) ?hq87 (Or.inl ⟨?hw87, ?hy87⟩) (by assumption) ?rs87
              case hi87 => (simp only [Hg]; rfl)
              case hq87 => exact fun _ _ _ h => h
              case hw87 => rfl
              case hy87 => (intro w hSw; (try dsimp only at hSw); go_simp <;> with_reducible rfl)
              simp only [Hp]
              refine wpAnyH_take (i := 5) (oi := ?oi88) (v := ?vv88) ?hi88 (by kernel_rfl) (by kernel_rfl) (by kernel_rfl) ?hq88 (Or.inl ⟨?hw88, ?hy88⟩) (by assumption) ?rs88
              case hi88 => (simp only [Hg]; rfl)
              case hq88 => exact fun _ _ _ h => h
              case hw88 => rfl
              case hy88 => (intro w hSw; (try dsimp only at hSw); go_simp <;> with_reducible rfl)
              simp only [Hp]
              refine wpAnyH_take (i := 6) (oi := ?oi89) (v := ?vv89) ?hi89 (by kernel_rfl) (by kernel_rfl) (by kernel_rfl) ?hq89 (Or.inl ⟨?hw89, ?hy89⟩) (by assumption) ?rs89
              case hi89 => (simp only [Hg]; rfl)
              case hq89 => exact fun _ _ _ h => h
              case hw89 => rfl
              case hy89 => (intro w hSw; (try dsimp only at hSw); go_simp <;> with_reducible rfl)
              simp only [Hp]
              refine wpAnyH_take (i := 7) (oi := ?oi90) (v := ?vv90) ?hi90 (by kernel_rfl) (by kernel_rfl) (by kernel_rfl) ?hq90 (Or.inl ⟨?hw90, ?hy90⟩) (by assumption) ?rs90
              case hi90 => (simp only [Hg]; rfl)
              case hq90 => exact fun _ _ _ h => h
              case hw90 => rfl
              case hy90 => (intro w hSw; (try dsimp only at hSw); go_simp <;> with_reducible rfl)
              simp only [Hp]
              refine wpAnyH_take (i := 8) (oi := ?oi91) (v := ?vv91) ?hi91 (by kernel_rfl) (by kernel_rfl) (by kernel_rfl) ?hq91 (Or.inl ⟨?hw91, ?hy91⟩) (by assumption) ?rs91
              case hi91 => (simp only [Hg]; rfl)
              case hq91 => exact fun _ _ _ h => h
              case hw91 => rfl
              case hy91 => (intro w hSw; (try dsimp only at hSw); go_simp <;> with_reducible rfl)
              simp only [Hp]
              refine wpAnyH_ready (rs := [0]) (by kernel_rfl) (by simp) (AllReadyH.cons (o := ?oi92) ?hi92 (fun K hK => ?rs92) AllReadyH.nil)
              case hi92 => (simp only [Hg]; rfl)
              go_simp
              (go_at_call 45; (with_reducible refine (ref7_Six _).mono ?_); rintro e w3 ⟨gS, m, d, rfl, hb3, h6⟩; obtain ⟨lo, hi, A, c, l, week, hkx⟩ := h6.kx k hk; have HB3 := Lib.hid hb3; have K3 := Lib.hid hkx; have hgS := h6.lt; have c0 := hkx.c0; have c1 := hkx.c1; have c2 := hkx.c2; have c3 := hkx.c3; have hgz3 : g < w3.heap.size := Nat.lt_of_lt_of_le hgz2 hb3.size)
              refine hK.out _ _ ?hs92 (fun hHeld => ?rt92)
              case hs92 => exact (hb3.cell (p := ⟨g, k, none⟩) hgz2).trans hck2
              clear hK K
              try simp only [Hp]
              refine wpAnyH_take (i := 2) (oi := ?oi93) (v := ?vv93) ?hi93 (by kernel_rfl) (by kernel_rfl) (by kernel_rfl) ?hq93 (Or.inl ⟨?hw93, ?hy93⟩) (by assumption) ?rs93
              case hi93 => (simp only [Hg]; rfl)
              case hq93 => exact fun _ _ _ h => h
              case hw93 => rfl
              case hy93 => (intro w hSw; (try dsimp only at hSw); go_simp <;> with_reducible rfl)
              simp only [Hp]
              refine wpAnyH_ready (rs := [3]) (by kernel_rfl) (by simp) (AllReadyH.cons (o := ?oi94) ?hi94 (fun K hK => ?rs94) AllReadyH.nil)
              case hi94 => (simp only [Hg]; rfl)
              go_simp
              refine hK.out _ _ ?hs94 (fun hHeld => ?rt94)
              case hs94 => assumption
              clear hK K
              try simp only [Hp]
              refine wpAnyH_ready (rs := [9]) (by kernel_rfl) (by simp) (AllReadyH.cons (o := ?oi95) ?hi95 (fun K hK => ?rs95) AllReadyH.nil)
              case hi95 => (simp only [Hg]; rfl)
              go_simp
              (go_at_call 53; (with_reducible refine (HPr.out _ _ _ _ _ _ _ _ K3.out).mono ?_); rintro e w4 ⟨rfl, hb4⟩; have HB4 := Lib.hid hb4)
              refine hK.out _ _ ?hs95 (fun hHeld => ?rt95)
              case hs95 => exact (hb4.cell (p := ⟨g, k, none⟩) hgz3).trans ((hb3.cell (p := ⟨g, k, none⟩) hgz2).trans hck2)
              clear hK K
              try simp only [Hp]
              refine wpAnyH_take (i := 10) (oi := ?oi96) (v := ?vv96) ?hi96 (by kernel_rfl) (by kernel_rfl) (by kernel_rfl) ?hq96 (Or.inl ⟨?hw96, ?hy96⟩) (by assumption) ?rs96
              case hi96 => (simp only [Hg]; rfl)
              case hq96 => exact fun _ _ _ h => h
              case hw96 => rfl
              case hy96 => (intro w hSw; (try dsimp only at hSw); go_simp <;> with_reducible rfl)
              simp only [Hp]
              refine wpAnyH_take (i := 11) (oi := ?oi97) (v := ?vv97) ?hi97 (by kernel_rfl) (by kernel_rfl) (by kernel_rfl) ?hq97 (Or.inl ⟨?hw97, ?hy97⟩) (by assumption) ?rs97
              case hi97 => (simp only [Hg]; rfl)
              case hq97 => exact fun _ _ _ h => h
              case hw97 => rfl
              case hy97 => (intro w hSw; (try dsimp only at hSw); go_simp <;> with_reducible rfl)
              simp only [Hp]
              refine wpAnyH_take (i := 12) (oi := ?oi98) (v := ?vv98) ?hi98 (by kernel_rfl) (by kernel_rfl) (by kernel_rfl) ?hq98 (Or.inl ⟨?hw98, ?hy98⟩) (by assumption) ?rs98
              case hi98 => (simp only [Hg]; rfl)
              case hq98 => exact fun _ _ _ h => h
              case hw98 => rfl
              case hy98 => (intro w hSw; (try dsimp only at hSw); go_simp <;> with_reducible rfl)
              simp only [Hp]
              refine wpAnyH_take (i := 13) (oi := ?oi99) (v := ?vv99) ?hi99 (by kernel_rfl) (by kernel_rfl) (by kernel_rfl) ?hq99 (Or.inl ⟨?hw99, ?hy99⟩) (by assumption) ?rs99
              case hi99 => (simp only [Hg]; rfl)
              case hq99 => exact fun _ _ _ h => h
              case hw99 => rfl
              case hy99 => (intro w hSw; (try dsimp only at hSw); go_simp <;> with_reducible rfl)
              simp only [Hp]
              refine wpAnyH_take (i := 14) (oi := ?oi100) (v := ?vv100) ?hi100 (by kernel_rfl) (by kernel_rfl) (by kernel_rfl) ?hq100 (Or.inl ⟨?hw100, ?hy100⟩) (by assumption) ?rs100
              case hi100 => (simp only [Hg]; rfl)
              case hq100 => exact fun _ _ _ h => h
              case hw100 => rfl
              case hy100 => (intro w hSw; (try dsimp only at hSw); go_simp <;> with_reducible rfl)
              simp only [Hp]
              refine wpAnyH_done (by kernel_rfl) ?_ _

              have B4 : Hid (Below wr.heap.size wr w4) := Lib.hid ((B2.out.drew.trans (HB3.out.mono B2.out.size)).trans (HB4.out.mono (Nat.le_trans B2.out.size HB3.out.size)))
              have X4 := Lib.hid (HX.out.below B4.out hsz)
              have L4 := Lib.hid (HL.out.below B4.out hgz)
              have BW4 : Hid (Below w.heap.size w w4) := Lib.hid (HB.out.trans (B4.out.mono (Nat.le_of_lt hsz)))
              clear c0 c1 c2 c3 c6 c7 hck hck2 hc0
              have Hlast : Hid (txX x (k + 1) = txX x k ++ [T0]) := Lib.hid (by rw [Hsucc.out, Hpc.out, if_neg Hcase.out])
              by_cases hJ0 : J = []
              · have ht : txX x k = [] := Hjn.out.1 hJ0
                have HT0 := Lib.hid ht
                have hne : (!(strOf J).toList.isEmpty) = false := by rw [ByteArray.toList_eq, hJ0]; rfl
                have HJ0 := Lib.hid hJ0
                clear a1 a2 ht hJ0
                go_wp2_with fail
                go_roundw
                case rel =>
                  refine ⟨k + 1, by omega, by go_num, ?_, BW4.out, X4.out, L4.out⟩
                  rw [Hlast.out, joinS_snoc, if_pos HT0.out]
                  congr 1
                  apply ByteArray.ext
                  simp [strOf, HJ0.out]
                case measure => simp [intOf]; omega
              · have ht : ¬ txX x k = [] := fun h => hJ0 (Hjn.out.2 h)
                have HT0 := Lib.hid ht
                have hne : (!(strOf J).toList.isEmpty) = true := by rw [ByteArray.toList_eq]; simpa [strOf] using hJ0
                clear a3 ht hJ0
                go_wp2_with fail
                go_roundw
                case rel =>
                  refine ⟨k + 1, by omega, by go_num, ?_, BW4.out, X4.out, L4.out⟩
                  rw [Hlast.out, joinS_snoc, if_neg HT0.out, HJ.out]
                  congr 1
                  apply ByteArray.ext
                  simp [strOf]
                case measure => simp [intOf]; omega
      · obtain rfl : k = 6 := by omega
        rw [txX_six]
        go_wp2_with fail
        go_ret2
        exact ⟨rfl, HB.out⟩
end Go.Proofs.YtjnlgaeedcklaaaGreatDoor
