/-
  FieldRanges: the walk, the row, the card.
-/
import Derived.Test.YtfhcnndleaoobaaGreatDoorFRow
import Derived.Test.YtfhcnndleaoobaaGreatDoorFSixPlain
import Derived.Test.YtfhcnndleaoobaaGreatDoorFPlain3
import Derived.Test.YtfhcnndleaoobaaGreatDoorFDig
set_option linter.unusedVariables false
set_option linter.unusedSimpArgs false
namespace Go.Proofs.YtfhcnndleaoobaaGreatDoor.fieldRanges
open Go.ChangeShapes Go.WideShapes Go.ChangeAt Go.RowKit

theorem rangeSet_skip {w : Bool} {a b c L N : Nat} (h : L ≤ N) (hc : ¬ (a ≤ N ∧ N ≤ b ∧ (N - a) % c = 0)) : Fs.rangeSet w a b c L (N + 1 - L) = Fs.rangeSet w a b c L (N - L) := by
  rw [show N + 1 - L = (N - L) + 1 from by omega, Fs.rangeSet, show L + (N - L) = N from by omega, if_neg hc]
theorem rangeSet_take {w : Bool} {a b c L N : Nat} (h : L ≤ N) (hc : a ≤ N ∧ N ≤ b ∧ (N - a) % c = 0) : Fs.rangeSet w a b c L (N + 1 - L) = Fs.rangeSet w a b c L (N - L) ||| 2 ^ Fs.wk w N := by
  rw [show N + 1 - L = (N - L) + 1 from by omega, Fs.rangeSet, show L + (N - L) = N from by omega, if_pos hc]
theorem mod_test (v L c : Nat) (h : L ≤ v) : (((v : Int) - (L : Int)) % (c : Int) != 0) = !decide ((v - L) % c = 0) := by
  rw [show (v : Int) - (L : Int) = ((v - L : Nat) : Int) from by omega, bne]
  congr 1
  rw [Bool.eq_iff_iff, beq_iff_eq, decide_eq_true_eq]
  omega
theorem or_one (s : Nat) (hs : s < 18446744073709551616) : bits .or .u64 (s : Int) 1 = ((s ||| 2 ^ 0 : Nat) : Int) := by
  rw [show (1 : Int) = ((1 : Nat) : Int) from rfl, u64_or_nat s 1 hs (by decide)]
  all_goals rfl
set_option maxRecDepth 100000 in
set_option maxHeartbeats 4000000 in
theorem walk (a0 a1 a2 a3 : Int) (w0 : (Lit.int .u8 a0).wf = true) (w1 : (Lit.int .u8 a1).wf = true) (w2 : (Lit.int .u8 a2).wf = true) (w3 : (Lit.int .u8 a3).wf = true) (w : World) (hT : Tabs w) :
    Calls Tryz.prog 9 #[.int .u8 a0, .int .u8 a1, .int .u8 a2, .int .u8 a3] w fun e w' => e = .returned (.bool true) ∧ Below w.heap.size w w' := by
  obtain ⟨n, rfl, hn⟩ := u8_nat w0
  obtain ⟨a, rfl, ha⟩ := u8_nat w1
  obtain ⟨b, rfl, hb⟩ := u8_nat w2
  obtain ⟨c', rfl, hc'⟩ := u8_nat w3
  obtain ⟨lo, hi, l, week, hk, hsix⟩ := six_ok n hn
  obtain ⟨f1, f2, f3, f4, f5, f6, f7, f8⟩ := hk.facts
  obtain ⟨L, rfl⟩ := Int.eq_ofNat_of_zero_le f2
  obtain ⟨H, rfl⟩ := Int.eq_ofNat_of_zero_le (Int.le_trans f2 f3)
  have eA : ((a % 63 : Nat) : Int) = (a : Int) % 63 := by omega
  have eB : ((b % 63 : Nat) : Int) = (b : Int) % 63 := by omega
  have eC : ((c' % 100 : Nat) : Int) = (c' : Int) % 100 := by omega
  obtain ⟨Da, da⟩ : ∃ Da : ByteArray, Da = ⟨(Fs.dig (a % 63)).toArray⟩ := ⟨_, rfl⟩
  obtain ⟨Db, db⟩ : ∃ Db : ByteArray, Db = ⟨(Fs.dig (b % 63)).toArray⟩ := ⟨_, rfl⟩
  obtain ⟨Dc, dc⟩ : ∃ Dc : ByteArray, Dc = ⟨(Fs.dig (c' % 100)).toArray⟩ := ⟨_, rfl⟩
  have D1 : Hid (∀ W, Calls Tryz.prog 33 #[.int .i64 ((a : Int) % 63)] W fun e w' => e = .returned (.string Da) ∧ Below W.heap.size W w') := Lib.hid fun W => by rw [← eA, da]; exact law_digits _ W (by omega)
  have D2 : Hid (∀ W, Calls Tryz.prog 33 #[.int .i64 ((b : Int) % 63)] W fun e w' => e = .returned (.string Db) ∧ Below W.heap.size W w') := Lib.hid fun W => by rw [← eB, db]; exact law_digits _ W (by omega)
  have D3 : Hid (∀ W, Calls Tryz.prog 33 #[.int .i64 ((c' : Int) % 100)] W fun e w' => e = .returned (.string Dc) ∧ Below W.heap.size W w') := Lib.hid fun W => by rw [← eC, dc]; exact law_digits _ W (by omega)
  have la : Da.size ≤ 2 := by rw [da]; show (Fs.dig (a % 63)).toArray.size ≤ 2; rw [List.size_toArray]; rcases Fs.dig_len (a % 63) (by omega) with h | h <;> omega
  have lb : Db.size ≤ 2 := by rw [db]; show (Fs.dig (b % 63)).toArray.size ≤ 2; rw [List.size_toArray]; rcases Fs.dig_len (b % 63) (by omega) with h | h <;> omega
  have lc : Dc.size ≤ 2 := by rw [dc]; show (Fs.dig (c' % 100)).toArray.size ≤ 2; rw [List.size_toArray]; rcases Fs.dig_len (c' % 100) (by omega) with h | h <;> omega
  have e1 : (⟨#[45]⟩ : ByteArray).size = 1 := rfl
  have e2 : (⟨#[47]⟩ : ByteArray).size = 1 := rfl
  have hs : (Da ++ (⟨#[45]⟩ : ByteArray) ++ Db ++ (⟨#[47]⟩ : ByteArray) ++ Dc).size ≤ 8 := by simp only [ByteArray.size_append]; omega
  have ht : (Da ++ (⟨#[45]⟩ : ByteArray) ++ Db ++ (⟨#[47]⟩ : ByteArray) ++ Dc).data.toList = Fs.rangeText (a % 63) (b % 63) (c' % 100) := by
    rw [da, db, dc]; simp [Fs.rangeText]
  have hbad := fun h => Fs.ranges_bad (k := kind L H l week) (lo := L) (hi := H) f1 rfl rfl (a % 63) (b % 63) (c' % 100) (by omega) (by omega) (by omega) h
  have hgood := fun h1 h2 h3 h4 => Fs.ranges_loop (k := kind L H l week) (lo := L) (hi := H) f1 rfl rfl (a % 63) (b % 63) (c' % 100) (by omega) (by omega) (by omega) h1 h2 h3 h4
  rcases hp : Fs.parse (kind L H l week) (Fs.rangeText (a % 63) (b % 63) (c' % 100)) with ⟨S, star, x, e⟩
  rw [hp] at hbad hgood
  have G : Hid (∀ A c W, KindAt W (n % 6) L H A c l week → Tabs W → Calls Tryz.prog 15 #[.agg #[.int .i64 L, .int .i64 H, .slice A l.length c, .bool week], .string (Da ++ (⟨#[45]⟩ : ByteArray) ++ Db ++ (⟨#[47]⟩ : ByteArray) ++ Dc)] W fun e' w' => e' = .returned (.tuple #[.int .u64 S, .bool star, .int .i64 x, .int .i64 e]) ∧ Below W.heap.size W w') :=
    Lib.hid fun A c W h hT => by have := kd_Parse h hT _ (Nat.le_trans hs (by decide)); rw [ht, hp] at this; exact this
  have H6 := Lib.hid hsix
  have HT := Lib.hid hT
  have kl : (kind L H l week).week = week := rfl
  rw [kl] at hbad hgood
  have HB := Lib.hid hbad
  have HG := Lib.hid hgood
  clear hsix hT hk f1 f5 f6 f7 f8 w0 w1 w2 w3 hs ht da db dc hp hbad hgood kl
  generalize Fs.full (kind L H l week) = fu at *
  generalize hhL : (L : Int) = lo at *
  generalize hhH : (H : Int) = hi at *
  have hLH : L ≤ H := by omega
  have hH59 : H ≤ 59 := by omega
  have a1 := str_add Da (⟨#[45]⟩ : ByteArray) (by omega)
  have a2 := str_add (Da ++ (⟨#[45]⟩ : ByteArray)) Db (by simp only [ByteArray.size_append]; omega)
  have a3 := str_add (Da ++ (⟨#[45]⟩ : ByteArray) ++ Db) (⟨#[47]⟩ : ByteArray) (by simp only [ByteArray.size_append]; omega)
  have a4 := str_add (Da ++ (⟨#[45]⟩ : ByteArray) ++ Db ++ (⟨#[47]⟩ : ByteArray)) Dc (by simp only [ByteArray.size_append]; omega)
  go_enter Tryz.func9, Tryz.ntmps9
  go_wp2_with (first
    | (go_at_call 32; (with_reducible refine (H6.out _ HT.out).mono ?_); rintro e x1 ⟨A, c, rfl, hb1, hk1⟩
       have B1 := Lib.hid hb1; have K1 := Lib.hid hk1; have T1 := Lib.hid (HT.out.grow hb1); clear hb1 hk1))
  obtain ⟨x2, hx2⟩ : ∃ x, x1.alloc (.cells #[.int .i64 lo, .int .i64 hi, .slice A l.length c, .bool week] 30) = x := ⟨_, rfl⟩
  rw [hx2]
  have B2 : Hid (Below w.heap.size w x2) := Lib.hid (hx2 ▸ B1.out.alloc B1.out.size _)
  have K2 : Hid (KindAt x2 (n % 6) lo hi A c l week) := Lib.hid (hx2 ▸ K1.out.alloc _)
  have T2 : Hid (Tabs x2) := Lib.hid (hx2 ▸ T1.out.alloc _)
  have c2 : x2.cell? ⟨x1.heap.size, 0, none⟩ = some (.int .i64 lo) ∧ x2.cell? ⟨x1.heap.size, 1, none⟩ = some (.int .i64 hi) ∧ x2.cell? ⟨x1.heap.size, 2, none⟩ = some (.slice A l.length c) ∧ x2.cell? ⟨x1.heap.size, 3, none⟩ = some (.bool week) := by
    rw [← hx2]
    exact ⟨by rw [World.cell?_alloc_at _ _ _ _ rfl]; rfl, by rw [World.cell?_alloc_at _ _ _ _ rfl]; rfl, by rw [World.cell?_alloc_at _ _ _ _ rfl]; rfl, by rw [World.cell?_alloc_at _ _ _ _ rfl]; rfl⟩
  have s2 : x1.heap.size < x2.heap.size := by rw [← hx2]; simp
  clear hx2 B1 K1 T1
  obtain ⟨ca2, cb2, cc2, cd2⟩ := c2
  have hB := B2.out.drew; have hK := K2.out.grow (Below.refl x2.heap.size x2).drew; have hTT := T2.out.drew
  clear B2 K2 T2
  have B2 := Lib.hid hB; have K2 := Lib.hid hK; have T2 := Lib.hid hTT
  clear hB hK hTT
  go_region_held3 (fun w' => w'.cell? ⟨x1.heap.size, 0, none⟩ = some (.int .i64 lo) ∧ w'.cell? ⟨x1.heap.size, 1, none⟩ = some (.int .i64 hi) ∧ w'.cell? ⟨x1.heap.size, 2, none⟩ = some (.slice A l.length c) ∧ w'.cell? ⟨x1.heap.size, 3, none⟩ = some (.bool week)) (first | (exact ⟨ca6, cb6, cc6, cd6⟩) | (exact ⟨ca5, cb5, cc5, cd5⟩) | (exact ⟨ca4, cb4, cc4, cd4⟩) | (exact ⟨ca3, cb3, cc3, cd3⟩) | (exact ⟨ca2, cb2, cc2, cd2⟩) | go_keep)
    (first
      | (go_at_call 33; (with_reducible refine (D1.out _).mono ?_); rintro e x3 ⟨rfl, hb2⟩
         have B3 := Lib.hid (B2.out.trans (hb2.mono B2.out.size)); have K3 := Lib.hid (K2.out.grow hb2); have T3 := Lib.hid (T2.out.grow hb2)
         have s3 : x1.heap.size < x3.heap.size := by have h9 := hb2.size; have h8 : (World.drew x2).heap.size = x2.heap.size := rfl; omega
         have ca3 := (hb2.cell (p := ⟨x1.heap.size, 0, none⟩) s2).trans ca2; have cb3 := (hb2.cell (p := ⟨x1.heap.size, 1, none⟩) s2).trans cb2; have cc3 := (hb2.cell (p := ⟨x1.heap.size, 2, none⟩) s2).trans cc2; have cd3 := (hb2.cell (p := ⟨x1.heap.size, 3, none⟩) s2).trans cd2
         clear hb2)
      | (go_at_call 33; (with_reducible refine (D2.out _).mono ?_); rintro e x4 ⟨rfl, hb2⟩
         have B4 := Lib.hid (B3.out.trans (hb2.mono B3.out.size)); have K4 := Lib.hid (K3.out.grow hb2); have T4 := Lib.hid (T3.out.grow hb2)
         have s4 : x1.heap.size < x4.heap.size := by have h9 := hb2.size; have h8 : (World.drew x3).heap.size = x3.heap.size := rfl; omega
         have ca4 := (hb2.cell (p := ⟨x1.heap.size, 0, none⟩) s3).trans ca3; have cb4 := (hb2.cell (p := ⟨x1.heap.size, 1, none⟩) s3).trans cb3; have cc4 := (hb2.cell (p := ⟨x1.heap.size, 2, none⟩) s3).trans cc3; have cd4 := (hb2.cell (p := ⟨x1.heap.size, 3, none⟩) s3).trans cd3
         clear hb2)
      | (go_at_call 33; (with_reducible refine (D3.out _).mono ?_); rintro e x5 ⟨rfl, hb2⟩
         have B5 := Lib.hid (B4.out.trans (hb2.mono B4.out.size)); have K5 := Lib.hid (K4.out.grow hb2); have T5 := Lib.hid (T4.out.grow hb2)
         have s5 : x1.heap.size < x5.heap.size := by have h9 := hb2.size; have h8 : (World.drew x4).heap.size = x4.heap.size := rfl; omega
         have ca5 := (hb2.cell (p := ⟨x1.heap.size, 0, none⟩) s4).trans ca4; have cb5 := (hb2.cell (p := ⟨x1.heap.size, 1, none⟩) s4).trans cb4; have cc5 := (hb2.cell (p := ⟨x1.heap.size, 2, none⟩) s4).trans cc4; have cd5 := (hb2.cell (p := ⟨x1.heap.size, 3, none⟩) s4).trans cd4
         clear hb2)
      | (go_at_call 15; (with_reducible refine (G.out _ _ _ K5.out T5.out).mono ?_); rintro e x6 ⟨rfl, hb2⟩
         have B6 := Lib.hid (B5.out.trans (hb2.mono B5.out.size)); have K6 := Lib.hid (K5.out.grow hb2); have T6 := Lib.hid (T5.out.grow hb2)
         have s6 : x1.heap.size < x6.heap.size := by have h9 := hb2.size; have h8 : (World.drew x5).heap.size = x5.heap.size := rfl; omega
         have ca6 := (hb2.cell (p := ⟨x1.heap.size, 0, none⟩) s5).trans ca5; have cb6 := (hb2.cell (p := ⟨x1.heap.size, 1, none⟩) s5).trans cb5; have cc6 := (hb2.cell (p := ⟨x1.heap.size, 2, none⟩) s5).trans cc5; have cd6 := (hb2.cell (p := ⟨x1.heap.size, 3, none⟩) s5).trans cd5
         clear hb2))
  rw [← eA, ← eB, ← eC]
  have ma : a % 63 < 63 := Nat.mod_lt _ (by decide)
  have mb : b % 63 < 63 := Nat.mod_lt _ (by decide)
  have mc : c' % 100 < 100 := Nat.mod_lt _ (by decide)
  clear D1 D2 D3 G a1 a2 a3 a4 la lb lc e1 e2 B2 B3 B4 B5 K2 K3 K4 K5 K6 T2 T3 T4 T5 HT H6
  generalize a % 63 = α at *
  generalize b % 63 = β at *
  generalize c' % 100 = γ at *
  clear eA eB eC
  cases week with
  | false =>
    simp only [Fs.mostOf, Bool.false_eq_true, if_false] at HB HG
    by_cases t1 : (α : Int) < lo
    · skip
      obtain ⟨p, hp6, hq⟩ := HB.out (by omega)
      simp only [Prod.mk.injEq] at hq
      obtain ⟨q1, rfl, rfl, rfl⟩ := hq
      have q2 : ((S : Int) == 0) = true := by rw [beq_iff_eq]; omega
      clear HB HG q1
      go_wp2_with (first
        | (go_at_call 14; (with_reducible refine (works_true _ T6.out).mono ?_); rintro e x7 ⟨rfl, hb2⟩
           have B7 := Lib.hid (B6.out.trans (hb2.mono B6.out.size)); clear hb2))
      all_goals (go_ret; exact ⟨rfl, B7.out⟩)
    by_cases t2 : (β : Int) > hi
    · skip
      obtain ⟨p, hp6, hq⟩ := HB.out (by omega)
      simp only [Prod.mk.injEq] at hq
      obtain ⟨q1, rfl, rfl, rfl⟩ := hq
      have q2 : ((S : Int) == 0) = true := by rw [beq_iff_eq]; omega
      clear HB HG q1
      go_wp2_with (first
        | (go_at_call 14; (with_reducible refine (works_true _ T6.out).mono ?_); rintro e x7 ⟨rfl, hb2⟩
           have B7 := Lib.hid (B6.out.trans (hb2.mono B6.out.size)); clear hb2))
      all_goals (go_ret; exact ⟨rfl, B7.out⟩)
    by_cases t3 : (α : Int) > β
    · skip
      obtain ⟨p, hp6, hq⟩ := HB.out (by omega)
      simp only [Prod.mk.injEq] at hq
      obtain ⟨q1, rfl, rfl, rfl⟩ := hq
      have q2 : ((S : Int) == 0) = true := by rw [beq_iff_eq]; omega
      clear HB HG q1
      go_wp2_with (first
        | (go_at_call 14; (with_reducible refine (works_true _ T6.out).mono ?_); rintro e x7 ⟨rfl, hb2⟩
           have B7 := Lib.hid (B6.out.trans (hb2.mono B6.out.size)); clear hb2))
      all_goals (go_ret; exact ⟨rfl, B7.out⟩)
    by_cases t4 : (γ : Int) = 0
    · skip
      obtain ⟨p, hp6, hq⟩ := HB.out (by omega)
      simp only [Prod.mk.injEq] at hq
      obtain ⟨q1, rfl, rfl, rfl⟩ := hq
      have q2 : ((S : Int) == 0) = true := by rw [beq_iff_eq]; omega
      clear HB HG q1
      go_wp2_with (first
        | (go_at_call 14; (with_reducible refine (works_true _ T6.out).mono ?_); rintro e x7 ⟨rfl, hb2⟩
           have B7 := Lib.hid (B6.out.trans (hb2.mono B6.out.size)); clear hb2))
      all_goals (go_ret; exact ⟨rfl, B7.out⟩)
    have hq := HG.out (by omega) (by omega) (by omega) (by omega)
    simp only [Prod.mk.injEq] at hq
    obtain ⟨q1, rfl, q3, rfl⟩ := hq
    have q4 : ((x : Int) == 0) = true := by rw [beq_iff_eq]; omega
    have Q1 := Lib.hid q1
    clear HB HG q1 q3
    have hL59 : L ≤ 59 := by omega
    go_wp2_with fail
    subst hhL hhH
    go_loop [20, 21] (fun sv v => ∃ N : Nat, L ≤ N ∧ N ≤ H + 1 ∧ sv = .int .u64 (Fs.rangeSet false α β γ L (N - L)) ∧ v = .int .i64 N) (fun _ v => H + 1 - (intOf v).toNat)
    case atStart => exact ⟨L, Nat.le_refl _, by omega, by rw [Nat.sub_self]; rfl, rfl⟩
    case round =>
      obtain ⟨N, hN1, hN2, rfl, rfl⟩ := hrel
      by_cases hle : N ≤ H
      · have hslt := Fs.rangeSet_lt false α β γ L (N - L) (by omega)
        have hskip := @rangeSet_skip false α β γ L N hN1
        have htake := @rangeSet_take false α β γ L N hN1
        have Hskip := Lib.hid hskip; have Htake := Lib.hid htake; clear hskip htake
        obtain ⟨s, hs⟩ : ∃ s, Fs.rangeSet false α β γ L (N - L) = s := ⟨_, rfl⟩
        rw [hs] at hslt Hskip Htake ⊢
        by_cases s1 : N < α
        · go_wp2_with fail
          go_round
          case rel => exact ⟨N + 1, by omega, by omega, by rw [Hskip.out (by omega)], by go_num⟩
          case measure => simp [intOf]; omega
        by_cases s2 : N > β
        · go_wp2_with fail
          go_round
          case rel => exact ⟨N + 1, by omega, by omega, by rw [Hskip.out (by omega)], by go_num⟩
          case measure => simp [intOf]; omega
        have hmt := mod_test N α γ (by omega)
        have hw1 : IntKind.i64.wrap ((N : Int) - (α : Int)) = (N : Int) - (α : Int) := IntWalk.i64_in _ (by omega)
        by_cases s3 : (N - α) % γ = 0
        · rw [decide_eq_true s3] at hmt
          have hst := Htake.out ⟨by omega, by omega, s3⟩
          have Hst := Lib.hid hst; clear hst

          have hor := or_bit s N hslt (by omega)
          go_wp2_with fail
          go_round
          case rel => exact ⟨N + 1, by omega, by omega, by rw [Hst.out]; rfl, by go_num⟩
          case measure => simp [intOf]; omega
        · rw [decide_eq_false s3] at hmt
          go_wp2_with fail
          go_round
          case rel => exact ⟨N + 1, by omega, by omega, by rw [Hskip.out (fun h => s3 h.2.2)], by go_num⟩
          case measure => simp [intOf]; omega
      · have hcmp : ((S : Int) == ((Fs.rangeSet false α β γ L (N - L) : Nat) : Int)) = true := by
          rw [Q1.out, show H + 1 - L = N - L from by omega, beq_self_eq_true]
        go_wp2_with (first
          | (go_at_call 14; (with_reducible refine (works_true _ T6.out).mono ?_); rintro e x7 ⟨rfl, hb2⟩
             have B7 := Lib.hid (B6.out.trans (hb2.mono B6.out.size)); clear hb2))
        all_goals (go_ret; exact ⟨rfl, B7.out⟩)
  | true =>
    simp only [Fs.mostOf, if_true] at HB HG
    by_cases t1 : (α : Int) < lo
    · skip
      obtain ⟨p, hp6, hq⟩ := HB.out (by omega)
      simp only [Prod.mk.injEq] at hq
      obtain ⟨q1, rfl, rfl, rfl⟩ := hq
      have q2 : ((S : Int) == 0) = true := by rw [beq_iff_eq]; omega
      clear HB HG q1
      go_wp2_with (first
        | (go_at_call 14; (with_reducible refine (works_true _ T6.out).mono ?_); rintro e x7 ⟨rfl, hb2⟩
           have B7 := Lib.hid (B6.out.trans (hb2.mono B6.out.size)); clear hb2))
      all_goals (go_ret; exact ⟨rfl, B7.out⟩)
    by_cases t2 : (β : Int) > 7
    · skip
      obtain ⟨p, hp6, hq⟩ := HB.out (by omega)
      simp only [Prod.mk.injEq] at hq
      obtain ⟨q1, rfl, rfl, rfl⟩ := hq
      have q2 : ((S : Int) == 0) = true := by rw [beq_iff_eq]; omega
      clear HB HG q1
      go_wp2_with (first
        | (go_at_call 14; (with_reducible refine (works_true _ T6.out).mono ?_); rintro e x7 ⟨rfl, hb2⟩
           have B7 := Lib.hid (B6.out.trans (hb2.mono B6.out.size)); clear hb2))
      all_goals (go_ret; exact ⟨rfl, B7.out⟩)
    by_cases t3 : (α : Int) > β
    · skip
      obtain ⟨p, hp6, hq⟩ := HB.out (by omega)
      simp only [Prod.mk.injEq] at hq
      obtain ⟨q1, rfl, rfl, rfl⟩ := hq
      have q2 : ((S : Int) == 0) = true := by rw [beq_iff_eq]; omega
      clear HB HG q1
      go_wp2_with (first
        | (go_at_call 14; (with_reducible refine (works_true _ T6.out).mono ?_); rintro e x7 ⟨rfl, hb2⟩
           have B7 := Lib.hid (B6.out.trans (hb2.mono B6.out.size)); clear hb2))
      all_goals (go_ret; exact ⟨rfl, B7.out⟩)
    by_cases t4 : (γ : Int) = 0
    · skip
      obtain ⟨p, hp6, hq⟩ := HB.out (by omega)
      simp only [Prod.mk.injEq] at hq
      obtain ⟨q1, rfl, rfl, rfl⟩ := hq
      have q2 : ((S : Int) == 0) = true := by rw [beq_iff_eq]; omega
      clear HB HG q1
      go_wp2_with (first
        | (go_at_call 14; (with_reducible refine (works_true _ T6.out).mono ?_); rintro e x7 ⟨rfl, hb2⟩
           have B7 := Lib.hid (B6.out.trans (hb2.mono B6.out.size)); clear hb2))
      all_goals (go_ret; exact ⟨rfl, B7.out⟩)
    have hq := HG.out (by omega) (by omega) (by omega) (by omega)
    simp only [Prod.mk.injEq] at hq
    obtain ⟨q1, rfl, q3, rfl⟩ := hq
    have q4 : ((x : Int) == 0) = true := by rw [beq_iff_eq]; omega
    have Q1 := Lib.hid q1
    clear HB HG q1 q3
    have hL59 : L ≤ 59 := by omega
    go_wp2_with fail
    subst hhL hhH
    go_loop [20, 21] (fun sv v => ∃ N : Nat, L ≤ N ∧ N ≤ 7 + 1 ∧ sv = .int .u64 (Fs.rangeSet true α β γ L (N - L)) ∧ v = .int .i64 N) (fun _ v => 7 + 1 - (intOf v).toNat)
    case atStart => exact ⟨L, Nat.le_refl _, by omega, by rw [Nat.sub_self]; rfl, rfl⟩
    case round =>
      obtain ⟨N, hN1, hN2, rfl, rfl⟩ := hrel
      by_cases hle : N ≤ 7
      · have hslt := Fs.rangeSet_lt true α β γ L (N - L) (by omega)
        have hskip := @rangeSet_skip true α β γ L N hN1
        have htake := @rangeSet_take true α β γ L N hN1
        have Hskip := Lib.hid hskip; have Htake := Lib.hid htake; clear hskip htake
        obtain ⟨s, hs⟩ : ∃ s, Fs.rangeSet true α β γ L (N - L) = s := ⟨_, rfl⟩
        rw [hs] at hslt Hskip Htake ⊢
        by_cases s1 : N < α
        · go_wp2_with fail
          go_round
          case rel => exact ⟨N + 1, by omega, by omega, by rw [Hskip.out (by omega)], by go_num⟩
          case measure => simp [intOf]; omega
        by_cases s2 : N > β
        · go_wp2_with fail
          go_round
          case rel => exact ⟨N + 1, by omega, by omega, by rw [Hskip.out (by omega)], by go_num⟩
          case measure => simp [intOf]; omega
        have hmt := mod_test N α γ (by omega)
        have hw1 : IntKind.i64.wrap ((N : Int) - (α : Int)) = (N : Int) - (α : Int) := IntWalk.i64_in _ (by omega)
        by_cases s3 : (N - α) % γ = 0
        · rw [decide_eq_true s3] at hmt
          have hst := Htake.out ⟨by omega, by omega, s3⟩
          have Hst := Lib.hid hst; clear hst

          by_cases h7 : N = 7
          · have hor := or_one s hslt
            subst h7
            have hmt7 : (((7 : Int) - (α : Int)) % (γ : Int) != 0) = false := hmt
            have hw7 : IntKind.i64.wrap ((7 : Int) - (α : Int)) = (7 : Int) - (α : Int) := hw1
            clear hmt hw1
            go_wp2_with fail
            go_round
            case rel => exact ⟨7 + 1, by omega, by omega, by rw [Hst.out]; rfl, by go_num⟩
            case measure => simp [intOf]
          · have hor := or_bit s N hslt (by omega)
            have hwk : Fs.wk true N = N := by show N % 7 = N; omega
            go_wp2_with fail
            go_round
            case rel => exact ⟨N + 1, by omega, by omega, by rw [Hst.out, hwk], by go_num⟩
            case measure => simp [intOf]; omega
        · rw [decide_eq_false s3] at hmt
          go_wp2_with fail
          go_round
          case rel => exact ⟨N + 1, by omega, by omega, by rw [Hskip.out (fun h => s3 h.2.2)], by go_num⟩
          case measure => simp [intOf]; omega
      · have hcmp : ((S : Int) == ((Fs.rangeSet true α β γ L (N - L) : Nat) : Int)) = true := by
          rw [Q1.out, show 7 + 1 - L = N - L from by omega, beq_self_eq_true]
        go_wp2_with (first
          | (go_at_call 14; (with_reducible refine (works_true _ T6.out).mono ?_); rintro e x7 ⟨rfl, hb2⟩
             have B7 := Lib.hid (B6.out.trans (hb2.mono B6.out.size)); clear hb2))
        all_goals (go_ret; exact ⟨rfl, B7.out⟩)

set_option maxRecDepth 100000 in
theorem contract (H : Type) (enc : TypeId × Value → H) (W : World) (base : Nat) (args : Array Value) (ds gs : List (DataW H)) (before : List MemPlace)
    (hval : ∀ (j : Nat) t v, Tryz.f9.params[j]? = some t → args[j]? = some v → Value.okWide Tryz.prog W .any base t v)
    (hW : DataW.Whole enc Tryz.prog Tryz.f9.params.toList Rows.fieldRangesSpec.vars false W args.toList ds gs before) (hL : laidMetH Tryz.prog Rows.fieldRangesRow.laid W) (hS : W.ShapedOpen Tryz.prog) :
    Calls Tryz.prog 9 args W fun e W' => ∃ v, e = .returned v ∧ Rows.fieldRangesSpec.post enc Tryz.prog Tryz.f9 false true false false W args v W' := by
  have hT : Tabs W := FRow.tabs_of hL hS
  have hW' := hW
  obtain ⟨p, q, hA0, hV, rfl, hfz, hnd⟩ := hW
  have hA : DataW.TrodAll enc Tryz.prog W 0 (fun _ => true) true Tryz.f9.params.toList args.toList ds p := hA0
  rw [Tryz.params9] at hA hval
  obtain ⟨v0, vs0, d0, ds0, p0, q0, hargs, rfl, rfl, h0, r0⟩ := trodAll_cons hA
  obtain ⟨v1, vs1, d1, ds1, p1, q1, rfl, rfl, rfl, h1, r1⟩ := trodAll_cons r0
  obtain ⟨v2, vs2, d2, ds2, p2, q2, rfl, rfl, rfl, h2, r2⟩ := trodAll_cons r1
  obtain ⟨v3, vs3, d3, ds3, p3, q3, rfl, rfl, rfl, h3, r3⟩ := trodAll_cons r2
  obtain ⟨rfl, rfl, rfl⟩ := trodAll_nil r3
  obtain rfl : args = #[v0, v1, v2, v3] := by cases args; simp_all
  obtain ⟨rfl, rfl⟩ := trodVars_none hV
  obtain ⟨a0, rfl, rfl, rfl, w0⟩ := open_int Tryz.underlying5 (hval 0 5 v0 rfl rfl) h0
  obtain ⟨a1, rfl, rfl, rfl, w1⟩ := open_int Tryz.underlying5 (hval 1 5 v1 rfl rfl) h1
  obtain ⟨a2, rfl, rfl, rfl, w2⟩ := open_int Tryz.underlying5 (hval 2 5 v2 rfl rfl) h2
  obtain ⟨a3, rfl, rfl, rfl, w3⟩ := open_int Tryz.underlying5 (hval 3 5 v3 rfl rfl) h3
  clear hA0
  simp only [List.append_nil] at hW'
  refine (walk a0 a1 a2 a3 w0 w1 w2 w3 W hT ).mono fun e W' ⟨he, hb⟩ => ?_
  subst he
  exact ⟨_, rfl, _, _, _, [], [], [], hW', trodAll_cons_mk (shut_bool Tryz.underlying4 _) trodAll_mk0, (trodAll_cons_mk (shut_int Tryz.underlying5 w0) (trodAll_cons_mk (shut_int Tryz.underlying5 w1) (trodAll_cons_mk (shut_int Tryz.underlying5 w2) (trodAll_cons_mk (shut_int Tryz.underlying5 w3) trodAll_mk0)))), rfl, hb.frame _, fun h => by cases h⟩

set_option maxRecDepth 100000 in
theorem lifted (os : Os) (started : os.Started) (H : Type) (enc : TypeId × Value → H) (F : Stop.Interp) :
    ReturnsInHanded {} Tryz.checked os 9 .any ((OpenSpec.ofChange Rows.fieldRangesSpec).preRow enc Tryz.prog Tryz.f9 Rows.fieldRangesRow.domain false Rows.fieldRangesRow.laid) (((OpenSpec.ofChange Rows.fieldRangesSpec).at F).post enc Tryz.prog Tryz.f9 false true false false) := by
  refine returnsInHanded_of_row (C := Tryz.checked) (s := OpenSpec.ofChange Rows.fieldRangesSpec) FRow.own started (by kernel_rfl) Tryz.func9
    (ChangeSpec.witness_shaped (enc := enc) (C := Tryz.checked) (os := os) (X := fun w _ => laidMetH Tryz.prog FRow.laidL w) false (World.laidAll Tryz.prog os FRow.laidL) #[.int .u8 0, .int .u8 0, .int .u8 0, .int .u8 0] 8 (World.laidAll_os _ _ _)
      (FRow.wit_shaped os _) (by kernel_rfl) (by kernel_rfl) (by kernel_rfl) (FRow.wit_laid os _)) ?_
  intro W base args ds gs before hval hW _ _ _ hL hS _
  exact contract H enc W base args ds gs before hval hW hL hS

theorem said : Rows.FieldRangesSaid :=
  OpenClaim.holds_of_cond 9 Tryz.f9 rfl rfl rfl rfl rfl rfl rfl ⟨rfl, rfl, rfl, rfl, rfl⟩ rfl rfl rfl rfl rfl (by kernel_rfl) Tryz.func9 (by kernel_rfl)
    (of_decide_eq_true (by kernel_rfl)) (by unfold Func.isWrapper; first | (rw [if_pos (by decide +kernel)]; kernel_rfl) | (rw [if_neg (by decide +kernel)]; exact ⟨rfl, rfl⟩))
    (fun os started H enc _ F => by rw [OpenClaim.pre_eq_preRow]; exact lifted os started H enc F)

theorem plain (f : FuncId) (fn : Func) (hf : Tryz.pinned.checked.prog.funcNamed "wakeman/wakemanlaw06.FieldRanges" = some f) (hfn : Tryz.pinned.checked.prog.funcs[f]? = some fn) :
    true = Tryz.pinned.checked.prog.looks [] ∧ ∀ (j : Nat) t, fn.params[j]? = some t → Tryz.pinned.checked.prog.wantsStandIn t = false := by
  obtain rfl : f = 9 := Option.some.inj ((show Tryz.prog.funcNamed "wakeman/wakemanlaw06.FieldRanges" = some 9 by kernel_rfl).symm.trans hf) |>.symm
  obtain rfl : fn = Tryz.f9 := (Option.some.inj (Tryz.func9.symm.trans hfn)).symm
  refine ⟨by kernel_rfl, fun j t ht => ?_⟩
  rw [Tryz.params9] at ht
  have hm : t ∈ [5, 5, 5, 5] := by simpa using Array.mem_of_getElem? ht
  have hall : ([5, 5, 5, 5].all fun u => !Tryz.prog.wantsStandIn u) = true := by kernel_rfl
  exact (show Tryz.prog.wantsStandIn t = false by simpa using List.all_eq_true.1 hall t hm)

theorem card : Rows.FieldRangesCardSaid :=
  Claim7.holds_tied_plain_at .later [] _ _ _ _ said (fun _ h => by cases h) (by kernel_rfl) (fun _ h => by cases h) fieldRanges_row_tie rfl ⟨rfl, rfl⟩ (by kernel_rfl) rfl plain (by kernel_rfl)
#print axioms card
end Go.Proofs.YtfhcnndleaoobaaGreatDoor.fieldRanges
