/-
  FieldSteps: the walk, the row, the card.
-/
import Derived.Test.YtfhcnndleaoobaaGreatDoorFRow
import Derived.Test.YtfhcnndleaoobaaGreatDoorFSixPlain
import Derived.Test.YtfhcnndleaoobaaGreatDoorFPlain3
import Derived.Test.YtfhcnndleaoobaaGreatDoorFDig
set_option linter.unusedVariables false
set_option linter.unusedSimpArgs false
namespace Go.Proofs.YtfhcnndleaoobaaGreatDoor.fieldSteps
open Go.ChangeShapes Go.WideShapes Go.ChangeAt Go.RowKit

theorem bit_test (X v : Nat) (hX : X < 18446744073709551616) : (bits .and .u64 ((X : Int) / 2 ^ v) 1 == 1) = X.testBit v := by
  have hd : X / 2 ^ v < 18446744073709551616 := Nat.lt_of_le_of_lt (Nat.div_le_self _ _) hX
  have h2 : bits .and .u64 ((X / 2 ^ v : Nat) : Int) 1 = ((X / 2 ^ v &&& 1 : Nat) : Int) := u64_and_nat _ 1 hd (by omega)
  have h3 : (((X / 2 ^ v : Nat) : Int)) = (X : Int) / 2 ^ v := by simp
  rw [← h3, h2, Nat.testBit_eq_decide_div_mod_eq, nat_mask1, Bool.eq_iff_iff, beq_iff_eq, decide_eq_true_eq]
  omega
theorem mod_test (v L c : Nat) (h : L ≤ v) : (((v : Int) - (L : Int)).tmod (c : Int) == 0) = decide ((v - L) % c = 0) := by
  rw [Int.tmod_eq_emod_of_nonneg (by omega), show (v : Int) - (L : Int) = ((v - L : Nat) : Int) from by omega, Bool.eq_iff_iff, beq_iff_eq, decide_eq_true_eq]
  omega
set_option maxRecDepth 100000 in
set_option maxHeartbeats 16000000 in
theorem walk (a0 a1 a2 : Int) (w0 : (Lit.int .u8 a0).wf = true) (w1 : (Lit.int .u8 a1).wf = true) (w2 : (Lit.int .u8 a2).wf = true) (w : World) (hT : Tabs w) :
    Calls Tryz.prog 10 #[.int .u8 a0, .int .u8 a1, .int .u8 a2] w fun e w' => e = .returned (.bool true) ∧ Below w.heap.size w w' := by
  obtain ⟨n, rfl, hn⟩ := u8_nat w0
  obtain ⟨a, rfl, ha⟩ := u8_nat w1
  obtain ⟨c', rfl, hc'⟩ := u8_nat w2
  obtain ⟨lo, hi, l, week, hk, hsix⟩ := six_ok n hn
  obtain ⟨f1, f2, f3, f4, f5, f6, f7, f8⟩ := hk.facts
  obtain ⟨L, rfl⟩ := Int.eq_ofNat_of_zero_le f2
  obtain ⟨H, rfl⟩ := Int.eq_ofNat_of_zero_le (Int.le_trans f2 f3)
  have m1 : 0 ≤ (a : Int) % ((H : Int) - (L : Int) + 1) := Int.emod_nonneg _ (by omega)
  have m2 : (a : Int) % ((H : Int) - (L : Int) + 1) < (H : Int) - (L : Int) + 1 := Int.emod_lt_of_pos _ (by omega)
  obtain ⟨N, hN⟩ : ∃ N : Nat, (L : Int) + (a : Int) % ((H : Int) - (L : Int) + 1) = N := Int.eq_ofNat_of_zero_le (by omega)
  obtain ⟨C, hC⟩ : ∃ C : Nat, 1 + (c' : Int) % 99 = C := Int.eq_ofNat_of_zero_le (by omega)
  have hNL : L ≤ N := by omega
  have hNH : N ≤ H := by omega
  have hC1 : C ≠ 0 := by omega
  have hC2 : C < 100 := by omega
  obtain ⟨X, Y, q1, q2, q3, q4, q5, q6, q7, q8⟩ := Fs.steps_plain (k := kind L H l week) (lo := L) (hi := H) f1 rfl rfl N C hNL hNH hC2 hC1
  have hX := Fs.set_lt f1 _ q1
  have hY := Fs.set_lt f1 _ q2
  have hZ := Fs.set_lt f1 _ q3
  have d1 := andNot_sub X _ hX f8 q5
  have d2 := andNot_sub Y _ hY f8 q6
  obtain ⟨Dn, dn⟩ : ∃ Dn : ByteArray, Dn = ⟨(Fs.dig N).toArray⟩ := ⟨_, rfl⟩
  obtain ⟨Dc, dc⟩ : ∃ Dc : ByteArray, Dc = ⟨(Fs.dig C).toArray⟩ := ⟨_, rfl⟩
  have D1 : Hid (∀ W, Calls Tryz.prog 33 #[.int .i64 N] W fun e w' => e = .returned (.string Dn) ∧ Below W.heap.size W w') := Lib.hid fun W => by rw [dn]; exact law_digits _ W (by omega)
  have D2 : Hid (∀ W, Calls Tryz.prog 33 #[.int .i64 C] W fun e w' => e = .returned (.string Dc) ∧ Below W.heap.size W w') := Lib.hid fun W => by rw [dc]; exact law_digits _ W (by omega)
  have ln : Dn.size ≤ 2 := by rw [dn]; show (Fs.dig N).toArray.size ≤ 2; rw [List.size_toArray]; rcases Fs.dig_len N (by omega) with h | h <;> omega
  have lc : Dc.size ≤ 2 := by rw [dc]; show (Fs.dig C).toArray.size ≤ 2; rw [List.size_toArray]; rcases Fs.dig_len C (by omega) with h | h <;> omega
  have e1 : (⟨#[42, 47]⟩ : ByteArray).size = 2 := rfl
  have e2 : (⟨#[47]⟩ : ByteArray).size = 1 := rfl
  have hs1 : ((⟨#[42, 47]⟩ : ByteArray) ++ Dc).size ≤ 4 := by simp only [ByteArray.size_append]; omega
  have hs2 : (Dn ++ (⟨#[47]⟩ : ByteArray) ++ Dc).size ≤ 5 := by simp only [ByteArray.size_append]; omega
  have t1 : ((⟨#[42, 47]⟩ : ByteArray) ++ Dc).data.toList = 42 :: 47 :: Fs.dig C := by rw [dc]; simp
  have t2 : (Dn ++ (⟨#[47]⟩ : ByteArray) ++ Dc).data.toList = Fs.dig N ++ 47 :: Fs.dig C := by rw [dn, dc]; simp
  have t3 : Dn.data.toList = Fs.dig N := by rw [dn]
  have ez : IntKind.u64.wrap ((2 : Int) ^ N) = ((2 ^ N : Nat) : Int) := by
    rw [IntKind.wrap_u64]
    have : ((2 : Int) ^ N) = ((2 ^ N : Nat) : Int) := by simp
    rw [this]; generalize (2 : Nat) ^ N = p at hZ ⊢; omega
  have G1 : Hid (∀ A c W, KindAt W (n % 6) L H A c l week → Tabs W → Calls Tryz.prog 15 #[.agg #[.int .i64 L, .int .i64 H, .slice A l.length c, .bool week], .string ((⟨#[42, 47]⟩ : ByteArray) ++ Dc)] W fun e' w' => e' = .returned (.tuple #[.int .u64 X, .bool false, .int .i64 0, .int .i64 0]) ∧ Below W.heap.size W w') :=
    Lib.hid fun A c W h hT => by have := kd_Parse h hT _ (Nat.le_trans hs1 (by decide)); rw [t1, q1] at this; exact this
  have G2 : Hid (∀ A c W, KindAt W (n % 6) L H A c l week → Tabs W → Calls Tryz.prog 15 #[.agg #[.int .i64 L, .int .i64 H, .slice A l.length c, .bool week], .string (Dn ++ (⟨#[47]⟩ : ByteArray) ++ Dc)] W fun e' w' => e' = .returned (.tuple #[.int .u64 Y, .bool false, .int .i64 0, .int .i64 0]) ∧ Below W.heap.size W w') :=
    Lib.hid fun A c W h hT => by have := kd_Parse h hT _ (Nat.le_trans hs2 (by decide)); rw [t2, q2] at this; exact this
  have G3 : Hid (∀ A c W, KindAt W (n % 6) L H A c l week → Tabs W → Calls Tryz.prog 15 #[.agg #[.int .i64 L, .int .i64 H, .slice A l.length c, .bool week], .string Dn] W fun e' w' => e' = .returned (.tuple #[.int .u64 (IntKind.u64.wrap ((2 : Int) ^ N)), .bool false, .int .i64 0, .int .i64 0]) ∧ Below W.heap.size W w') :=
    Lib.hid fun A c W h hT => by have := kd_Parse h hT _ (Nat.le_trans ln (by decide)); rw [t3, q3] at this; rw [ez]; exact this
  have H6 := Lib.hid hsix
  have HT := Lib.hid hT
  have HN := Lib.hid hN
  have HC := Lib.hid hC
  have Q4 := Lib.hid q4
  have Q7 := Lib.hid q7
  have Q8 := Lib.hid q8
  clear hsix hT hk f1 f5 f6 f7 f8 w0 w1 w2 hs1 hs2 t1 t2 t3 dn dc q1 q2 q3 q4 q5 q6 q7 q8 hN hC hZ
  generalize Fs.full (kind L H l week) = fu at *
  generalize hhL : (L : Int) = lo at *
  generalize hhH : (H : Int) = hi at *
  have f9 : hi ≤ 59 := f4
  go_enter Tryz.func10, Tryz.ntmps10
  go_wp2_with (first
    | (go_at_call 32; (with_reducible refine (H6.out _ HT.out).mono ?_); rintro e x1 ⟨A, c, rfl, hb1, hk1⟩
       have B1 := Lib.hid hb1; have K1 := Lib.hid hk1; have T1 := Lib.hid (HT.out.grow hb1); clear hb1 hk1))
  obtain ⟨x2, hx2⟩ : ∃ x, x1.alloc (.cells #[.int .i64 lo, .int .i64 hi, .slice A l.length c, .bool week] 30) = x := ⟨_, rfl⟩
  rw [hx2]
  have B2 : Hid (Below w.heap.size w x2) := Lib.hid (hx2 ▸ B1.out.alloc B1.out.size _)
  have K2 : Hid (KindAt x2 (n % 6) lo hi A c l week) := Lib.hid (hx2 ▸ K1.out.alloc _)
  have T2 : Hid (Tabs x2) := Lib.hid (hx2 ▸ T1.out.alloc _)
  have c2 : x2.cell? ⟨x1.heap.size, 0, none⟩ = some (.int .i64 lo) ∧ x2.cell? ⟨x1.heap.size, 1, none⟩ = some (.int .i64 hi) ∧ x2.cell? ⟨x1.heap.size, 2, none⟩ = some (.slice A l.length c) ∧ x2.cell? ⟨x1.heap.size, 3, none⟩ = some (.bool week) := by
    rw [← hx2]
    exact ⟨by rw [World.cell?_alloc_at _ _ _ _ rfl]; rfl, by rw [World.cell?_alloc_at _ _ _ _ rfl]; rfl, by rw [World.cell?_alloc_at _ _ _ _ rfl]; rfl, by rw [World.cell?_alloc_at _ _ _ _ rfl]; rfl⟩
  have s2 : x1.heap.size < x2.heap.size := by rw [← hx2]; simp
  clear hx2 B1 K1 T1
  obtain ⟨ca2, cb2, cc2, cd2⟩ := c2
  have hm3 : hi - lo + 1 ≠ 0 := by omega
  go_quiet (fail)
  go_wp2_with fail
  rw [HN.out, HC.out]
  obtain ⟨x3, hx3⟩ : ∃ x, x2.drewN nq = x := ⟨_, rfl⟩
  rw [hx3]
  have B3 : Hid (Below w.heap.size w x3) := Lib.hid (hx3 ▸ below_drewN B2.out nq)
  have K3 : Hid (KindAt x3 (n % 6) lo hi A c l week) := Lib.hid (hx3 ▸ K2.out.grow (below_drewN (Below.refl _ x2) nq))
  have T3 : Hid (Tabs x3) := Lib.hid (hx3 ▸ T2.out.drewN nq)
  have ca3 : x3.cell? ⟨x1.heap.size, 0, none⟩ = some (.int .i64 lo) := by rw [← hx3]; exact ca2
  have cb3 : x3.cell? ⟨x1.heap.size, 1, none⟩ = some (.int .i64 hi) := by rw [← hx3]; exact cb2
  have cc3 : x3.cell? ⟨x1.heap.size, 2, none⟩ = some (.slice A l.length c) := by rw [← hx3]; exact cc2
  have cd3 : x3.cell? ⟨x1.heap.size, 3, none⟩ = some (.bool week) := by rw [← hx3]; exact cd2
  have s3 : x1.heap.size < x3.heap.size := by rw [← hx3]; exact s2
  clear hx3 B2 K2 T2 ca2 cb2 cc2 cd2 s2
  clear m1 m2 hm3 HN HC
  have a1 := str_add (⟨#[42, 47]⟩ : ByteArray) Dc (by omega)
  have a2 := str_add Dn (⟨#[47]⟩ : ByteArray) (by omega)
  have a3 := str_add (Dn ++ (⟨#[47]⟩ : ByteArray)) Dc (by simp only [ByteArray.size_append]; omega)
  have hB := B3.out.drew; have hK := K3.out.grow (Below.refl x3.heap.size x3).drew; have hTT := T3.out.drew
  clear B3 K3 T3
  have B3 := Lib.hid hB; have K3 := Lib.hid hK; have T3 := Lib.hid hTT
  clear hB hK hTT
  go_region_held3 (fun w' => w'.cell? ⟨x1.heap.size, 0, none⟩ = some (.int .i64 lo) ∧ w'.cell? ⟨x1.heap.size, 1, none⟩ = some (.int .i64 hi) ∧ w'.cell? ⟨x1.heap.size, 2, none⟩ = some (.slice A l.length c) ∧ w'.cell? ⟨x1.heap.size, 3, none⟩ = some (.bool week)) (first | (exact ⟨ca5, cb5, cc5, cd5⟩) | (exact ⟨ca4, cb4, cc4, cd4⟩) | (exact ⟨ca3, cb3, cc3, cd3⟩) | go_keep)
    (first
      | (go_at_call 33; (with_reducible refine (D2.out _).mono ?_); rintro e x4 ⟨rfl, hb2⟩
         have B4 := Lib.hid (B3.out.trans (hb2.mono B3.out.size)); have K4 := Lib.hid (K3.out.grow hb2); have T4 := Lib.hid (T3.out.grow hb2)
         have s4 : x1.heap.size < x4.heap.size := by have h9 := hb2.size; have h8 : (World.drew x3).heap.size = x3.heap.size := rfl; omega
         have ca4 := (hb2.cell (p := ⟨x1.heap.size, 0, none⟩) s3).trans ca3; have cb4 := (hb2.cell (p := ⟨x1.heap.size, 1, none⟩) s3).trans cb3; have cc4 := (hb2.cell (p := ⟨x1.heap.size, 2, none⟩) s3).trans cc3; have cd4 := (hb2.cell (p := ⟨x1.heap.size, 3, none⟩) s3).trans cd3
         clear hb2)
      | (go_at_call 15; (with_reducible refine (G1.out _ _ _ K4.out T4.out).mono ?_); rintro e x5 ⟨rfl, hb2⟩
         have B5 := Lib.hid (B4.out.trans (hb2.mono B4.out.size)); have K5 := Lib.hid (K4.out.grow hb2); have T5 := Lib.hid (T4.out.grow hb2)
         have s5 : x1.heap.size < x5.heap.size := by have h9 := hb2.size; have h8 : (World.drew x4).heap.size = x4.heap.size := rfl; omega
         have ca5 := (hb2.cell (p := ⟨x1.heap.size, 0, none⟩) s4).trans ca4; have cb5 := (hb2.cell (p := ⟨x1.heap.size, 1, none⟩) s4).trans cb4; have cc5 := (hb2.cell (p := ⟨x1.heap.size, 2, none⟩) s4).trans cc4; have cd5 := (hb2.cell (p := ⟨x1.heap.size, 3, none⟩) s4).trans cd4
         clear hb2))
  go_wp2_with fail
  have hB := B5.out.drew; have hK := K5.out.grow (Below.refl x5.heap.size x5).drew; have hTT := T5.out.drew
  clear B5 K5 T5
  have B5 := Lib.hid hB; have K5 := Lib.hid hK; have T5 := Lib.hid hTT
  clear hB hK hTT
  go_region_held3 (fun w' => w'.cell? ⟨x1.heap.size, 0, none⟩ = some (.int .i64 lo) ∧ w'.cell? ⟨x1.heap.size, 1, none⟩ = some (.int .i64 hi) ∧ w'.cell? ⟨x1.heap.size, 2, none⟩ = some (.slice A l.length c) ∧ w'.cell? ⟨x1.heap.size, 3, none⟩ = some (.bool week)) (first | (exact ⟨ca8, cb8, cc8, cd8⟩) | (exact ⟨ca7, cb7, cc7, cd7⟩) | (exact ⟨ca6, cb6, cc6, cd6⟩) | (exact ⟨ca5, cb5, cc5, cd5⟩) | go_keep)
    (first
      | (go_at_call 33; (with_reducible refine (D1.out _).mono ?_); rintro e x6 ⟨rfl, hb2⟩
         have B6 := Lib.hid (B5.out.trans (hb2.mono B5.out.size)); have K6 := Lib.hid (K5.out.grow hb2); have T6 := Lib.hid (T5.out.grow hb2)
         have s6 : x1.heap.size < x6.heap.size := by have h9 := hb2.size; have h8 : (World.drew x5).heap.size = x5.heap.size := rfl; omega
         have ca6 := (hb2.cell (p := ⟨x1.heap.size, 0, none⟩) s5).trans ca5; have cb6 := (hb2.cell (p := ⟨x1.heap.size, 1, none⟩) s5).trans cb5; have cc6 := (hb2.cell (p := ⟨x1.heap.size, 2, none⟩) s5).trans cc5; have cd6 := (hb2.cell (p := ⟨x1.heap.size, 3, none⟩) s5).trans cd5
         clear hb2)
      | (go_at_call 33; (with_reducible refine (D2.out _).mono ?_); rintro e x7 ⟨rfl, hb2⟩
         have B7 := Lib.hid (B6.out.trans (hb2.mono B6.out.size)); have K7 := Lib.hid (K6.out.grow hb2); have T7 := Lib.hid (T6.out.grow hb2)
         have s7 : x1.heap.size < x7.heap.size := by have h9 := hb2.size; have h8 : (World.drew x6).heap.size = x6.heap.size := rfl; omega
         have ca7 := (hb2.cell (p := ⟨x1.heap.size, 0, none⟩) s6).trans ca6; have cb7 := (hb2.cell (p := ⟨x1.heap.size, 1, none⟩) s6).trans cb6; have cc7 := (hb2.cell (p := ⟨x1.heap.size, 2, none⟩) s6).trans cc6; have cd7 := (hb2.cell (p := ⟨x1.heap.size, 3, none⟩) s6).trans cd6
         clear hb2)
      | (go_at_call 15; (with_reducible refine (G2.out _ _ _ K7.out T7.out).mono ?_); rintro e x8 ⟨rfl, hb2⟩
         have B8 := Lib.hid (B7.out.trans (hb2.mono B7.out.size)); have K8 := Lib.hid (K7.out.grow hb2); have T8 := Lib.hid (T7.out.grow hb2)
         have s8 : x1.heap.size < x8.heap.size := by have h9 := hb2.size; have h8 : (World.drew x7).heap.size = x7.heap.size := rfl; omega
         have ca8 := (hb2.cell (p := ⟨x1.heap.size, 0, none⟩) s7).trans ca7; have cb8 := (hb2.cell (p := ⟨x1.heap.size, 1, none⟩) s7).trans cb7; have cc8 := (hb2.cell (p := ⟨x1.heap.size, 2, none⟩) s7).trans cc7; have cd8 := (hb2.cell (p := ⟨x1.heap.size, 3, none⟩) s7).trans cd7
         clear hb2))
  go_wp2_with fail
  have hB := B8.out.drew; have hK := K8.out.grow (Below.refl x8.heap.size x8).drew; have hTT := T8.out.drew
  clear B8 K8 T8
  have B8 := Lib.hid hB; have K8 := Lib.hid hK; have T8 := Lib.hid hTT
  clear hB hK hTT
  go_region_held3 (fun w' => w'.cell? ⟨x1.heap.size, 0, none⟩ = some (.int .i64 lo) ∧ w'.cell? ⟨x1.heap.size, 1, none⟩ = some (.int .i64 hi) ∧ w'.cell? ⟨x1.heap.size, 2, none⟩ = some (.slice A l.length c) ∧ w'.cell? ⟨x1.heap.size, 3, none⟩ = some (.bool week)) (first | (exact ⟨ca10, cb10, cc10, cd10⟩) | (exact ⟨ca9, cb9, cc9, cd9⟩) | (exact ⟨ca8, cb8, cc8, cd8⟩) | go_keep)
    (first
      | (go_at_call 33; (with_reducible refine (D1.out _).mono ?_); rintro e x9 ⟨rfl, hb2⟩
         have B9 := Lib.hid (B8.out.trans (hb2.mono B8.out.size)); have K9 := Lib.hid (K8.out.grow hb2); have T9 := Lib.hid (T8.out.grow hb2)
         have s9 : x1.heap.size < x9.heap.size := by have h9 := hb2.size; have h8 : (World.drew x8).heap.size = x8.heap.size := rfl; omega
         have ca9 := (hb2.cell (p := ⟨x1.heap.size, 0, none⟩) s8).trans ca8; have cb9 := (hb2.cell (p := ⟨x1.heap.size, 1, none⟩) s8).trans cb8; have cc9 := (hb2.cell (p := ⟨x1.heap.size, 2, none⟩) s8).trans cc8; have cd9 := (hb2.cell (p := ⟨x1.heap.size, 3, none⟩) s8).trans cd8
         clear hb2)
      | (go_at_call 15; (with_reducible refine (G3.out _ _ _ K9.out T9.out).mono ?_); rintro e x10 ⟨rfl, hb2⟩
         have B10 := Lib.hid (B9.out.trans (hb2.mono B9.out.size)); have K10 := Lib.hid (K9.out.grow hb2); have T10 := Lib.hid (T9.out.grow hb2)
         have s10 : x1.heap.size < x10.heap.size := by have h9 := hb2.size; have h8 : (World.drew x9).heap.size = x9.heap.size := rfl; omega
         have ca10 := (hb2.cell (p := ⟨x1.heap.size, 0, none⟩) s9).trans ca9; have cb10 := (hb2.cell (p := ⟨x1.heap.size, 1, none⟩) s9).trans cb9; have cc10 := (hb2.cell (p := ⟨x1.heap.size, 2, none⟩) s9).trans cc9; have cd10 := (hb2.cell (p := ⟨x1.heap.size, 3, none⟩) s9).trans cd9
         clear hb2))
  clear D1 D2 G1 G2 G3 a1 a2 a3 B4 K4 T4 ca4 cb4 cc4 cd4 s4 B5 K5 T5 ca5 cb5 cc5 cd5 s5 B6 K6 T6 ca6 cb6 cc6 cd6 s6 B7 K7 T7 ca7 cb7 cc7 cd7 s7 B8 K8 T8 ca8 cb8 cc8 cd8 s8 B9 K9 T9 ca9 cb9 cc9 cd9 s9 B3 K3 T3 ca3 cb3 cc3 cd3 s3 K10 HT H6
  have hzz : (IntKind.u64.wrap ((2 : Int) ^ N) != IntKind.u64.wrap ((2 : Int) ^ N)) = false := by rw [bne, beq_self_eq_true]; rfl
  subst hhL hhH
  have BK := Lib.hid B10.out
  have TK := Lib.hid T10.out
  by_cases hc1 : C = 1
  · have hq := Q4.out hc1
    have hc1t : ((C : Int) == 1) = true := by rw [beq_iff_eq]; omega
    have hxx : ((X : Int) != (fu : Int)) = false := by rw [hq, bne, beq_self_eq_true]; rfl
    clear hc1 hq
    go_wp2_with fail
    go_loopw [24] (fun v wr => ∃ V : Nat, L ≤ V ∧ V ≤ H + 1 ∧ v = .int .i64 V ∧ Below x10.heap.size x10 wr) (fun v _ => H + 1 - (intOf v).toNat)
    case atStart => exact ⟨L, Nat.le_refl _, by omega, rfl, Below.refl _ _⟩
    case round =>
      obtain ⟨V, hV1, hV2, rfl, hbw⟩ := hrel
      have pa := (hbw.cell (p := ⟨x1.heap.size, 0, none⟩) s10).trans ca10
      have pb := (hbw.cell (p := ⟨x1.heap.size, 1, none⟩) s10).trans cb10
      have HBW := Lib.hid hbw
      have BW := Lib.hid (BK.out.trans (hbw.mono BK.out.size))
      have TW := Lib.hid (TK.out.grow hbw)
      clear hbw
      by_cases hle : V ≤ H
      · have u1 := bit_test X V hX
        have u2 := mod_test V L C hV1
        have u3 : decide ((V - L) % C = 0) = X.testBit V := by
          rw [Bool.eq_iff_iff, decide_eq_true_eq, Q7.out V hV1 hle]
        rw [u3] at u2
        have u4 : (!(X.testBit V == X.testBit V)) = false := by rw [beq_self_eq_true]; rfl
        have hw1 : IntKind.i64.wrap ((V : Int) - (L : Int)) = (V : Int) - (L : Int) := IntWalk.i64_in _ (by omega)
        have u5 := bit_test Y V hY
        generalize X.testBit V = bx at u1 u2 u4
        clear u3
        by_cases hVN : V < N
        · have u6 : Y.testBit V = false := by
            cases hb : Y.testBit V with
            | false => rfl
            | true => have := ((Q8.out V hV1 hle).1 hb).1; omega
          rw [u6] at u5
          clear u6
          have hg1 : decide ((N : Int) ≤ (V : Int)) = false := decide_eq_false (by omega)
          have hg2 : decide (N ≤ V) = false := decide_eq_false (by omega)
          go_wp2_with fail
          go_quiet (fail)
          go_wp2_with fail
          go_roundw
          case rel => exact ⟨V + 1, by omega, by omega, by go_num, below_drewN HBW.out _⟩
          case measure => simp [intOf]; omega
        · have u6 := mod_test V N C (by omega)
          have u7 : decide ((V - N) % C = 0) = Y.testBit V := by
            rw [Bool.eq_iff_iff, decide_eq_true_eq, Q8.out V hV1 hle]; exact ⟨fun h => ⟨by omega, h⟩, fun h => h.2⟩
          rw [u7] at u6
          have u8 : (!(Y.testBit V == Y.testBit V)) = false := by rw [beq_self_eq_true]; rfl
          have hw2 : IntKind.i64.wrap ((V : Int) - (N : Int)) = (V : Int) - (N : Int) := IntWalk.i64_in _ (by omega)
          generalize Y.testBit V = bY at u5 u6 u8
          clear u7
          have hg1 : decide ((N : Int) ≤ (V : Int)) = true := decide_eq_true (by omega)
          have hg2 : decide (N ≤ V) = true := decide_eq_true (by omega)
          go_wp2_with fail
          go_quiet (fail)
          go_wp2_with fail
          go_roundw
          case rel => exact ⟨V + 1, by omega, by omega, by go_num, below_drewN HBW.out _⟩
          case measure => simp [intOf]; omega
      · go_wp2_with (first
          | (go_at_call 14; (with_reducible refine (works_true _ TW.out).mono ?_); rintro e xx ⟨rfl, hb2⟩
             have BX := Lib.hid (BW.out.trans (hb2.mono BW.out.size)); clear hb2))
        all_goals (go_ret; exact ⟨rfl, BX.out⟩)
  · skip
    go_wp2_with fail
    go_loopw [24] (fun v wr => ∃ V : Nat, L ≤ V ∧ V ≤ H + 1 ∧ v = .int .i64 V ∧ Below x10.heap.size x10 wr) (fun v _ => H + 1 - (intOf v).toNat)
    case atStart => exact ⟨L, Nat.le_refl _, by omega, rfl, Below.refl _ _⟩
    case round =>
      obtain ⟨V, hV1, hV2, rfl, hbw⟩ := hrel
      have pa := (hbw.cell (p := ⟨x1.heap.size, 0, none⟩) s10).trans ca10
      have pb := (hbw.cell (p := ⟨x1.heap.size, 1, none⟩) s10).trans cb10
      have HBW := Lib.hid hbw
      have BW := Lib.hid (BK.out.trans (hbw.mono BK.out.size))
      have TW := Lib.hid (TK.out.grow hbw)
      clear hbw
      by_cases hle : V ≤ H
      · have u1 := bit_test X V hX
        have u2 := mod_test V L C hV1
        have u3 : decide ((V - L) % C = 0) = X.testBit V := by
          rw [Bool.eq_iff_iff, decide_eq_true_eq, Q7.out V hV1 hle]
        rw [u3] at u2
        have u4 : (!(X.testBit V == X.testBit V)) = false := by rw [beq_self_eq_true]; rfl
        have hw1 : IntKind.i64.wrap ((V : Int) - (L : Int)) = (V : Int) - (L : Int) := IntWalk.i64_in _ (by omega)
        have u5 := bit_test Y V hY
        generalize X.testBit V = bx at u1 u2 u4
        clear u3
        by_cases hVN : V < N
        · have u6 : Y.testBit V = false := by
            cases hb : Y.testBit V with
            | false => rfl
            | true => have := ((Q8.out V hV1 hle).1 hb).1; omega
          rw [u6] at u5
          clear u6
          have hg1 : decide ((N : Int) ≤ (V : Int)) = false := decide_eq_false (by omega)
          have hg2 : decide (N ≤ V) = false := decide_eq_false (by omega)
          go_wp2_with fail
          go_quiet (fail)
          go_wp2_with fail
          go_roundw
          case rel => exact ⟨V + 1, by omega, by omega, by go_num, below_drewN HBW.out _⟩
          case measure => simp [intOf]; omega
        · have u6 := mod_test V N C (by omega)
          have u7 : decide ((V - N) % C = 0) = Y.testBit V := by
            rw [Bool.eq_iff_iff, decide_eq_true_eq, Q8.out V hV1 hle]; exact ⟨fun h => ⟨by omega, h⟩, fun h => h.2⟩
          rw [u7] at u6
          have u8 : (!(Y.testBit V == Y.testBit V)) = false := by rw [beq_self_eq_true]; rfl
          have hw2 : IntKind.i64.wrap ((V : Int) - (N : Int)) = (V : Int) - (N : Int) := IntWalk.i64_in _ (by omega)
          generalize Y.testBit V = bY at u5 u6 u8
          clear u7
          have hg1 : decide ((N : Int) ≤ (V : Int)) = true := decide_eq_true (by omega)
          have hg2 : decide (N ≤ V) = true := decide_eq_true (by omega)
          go_wp2_with fail
          go_quiet (fail)
          go_wp2_with fail
          go_roundw
          case rel => exact ⟨V + 1, by omega, by omega, by go_num, below_drewN HBW.out _⟩
          case measure => simp [intOf]; omega
      · go_wp2_with (first
          | (go_at_call 14; (with_reducible refine (works_true _ TW.out).mono ?_); rintro e xx ⟨rfl, hb2⟩
             have BX := Lib.hid (BW.out.trans (hb2.mono BW.out.size)); clear hb2))
        all_goals (go_ret; exact ⟨rfl, BX.out⟩)

set_option maxRecDepth 100000 in
theorem contract (H : Type) (enc : TypeId × Value → H) (W : World) (base : Nat) (args : Array Value) (ds gs : List (DataW H)) (before : List MemPlace)
    (hval : ∀ (j : Nat) t v, Tryz.f10.params[j]? = some t → args[j]? = some v → Value.okWide Tryz.prog W .any base t v)
    (hW : DataW.Whole enc Tryz.prog Tryz.f10.params.toList Rows.fieldStepsSpec.vars false W args.toList ds gs before) (hL : laidMetH Tryz.prog Rows.fieldStepsRow.laid W) (hS : W.ShapedOpen Tryz.prog) :
    Calls Tryz.prog 10 args W fun e W' => ∃ v, e = .returned v ∧ Rows.fieldStepsSpec.post enc Tryz.prog Tryz.f10 false true false false W args v W' := by
  have hT : Tabs W := FRow.tabs_of hL hS
  have hW' := hW
  obtain ⟨p, q, hA0, hV, rfl, hfz, hnd⟩ := hW
  have hA : DataW.TrodAll enc Tryz.prog W 0 (fun _ => true) true Tryz.f10.params.toList args.toList ds p := hA0
  rw [Tryz.params10] at hA hval
  obtain ⟨v0, vs0, d0, ds0, p0, q0, hargs, rfl, rfl, h0, r0⟩ := trodAll_cons hA
  obtain ⟨v1, vs1, d1, ds1, p1, q1, rfl, rfl, rfl, h1, r1⟩ := trodAll_cons r0
  obtain ⟨v2, vs2, d2, ds2, p2, q2, rfl, rfl, rfl, h2, r2⟩ := trodAll_cons r1
  obtain ⟨rfl, rfl, rfl⟩ := trodAll_nil r2
  obtain rfl : args = #[v0, v1, v2] := by cases args; simp_all
  obtain ⟨rfl, rfl⟩ := trodVars_none hV
  obtain ⟨a0, rfl, rfl, rfl, w0⟩ := open_int Tryz.underlying5 (hval 0 5 v0 rfl rfl) h0
  obtain ⟨a1, rfl, rfl, rfl, w1⟩ := open_int Tryz.underlying5 (hval 1 5 v1 rfl rfl) h1
  obtain ⟨a2, rfl, rfl, rfl, w2⟩ := open_int Tryz.underlying5 (hval 2 5 v2 rfl rfl) h2
  clear hA0
  simp only [List.append_nil] at hW'
  refine (walk a0 a1 a2 w0 w1 w2 W hT ).mono fun e W' ⟨he, hb⟩ => ?_
  subst he
  exact ⟨_, rfl, _, _, _, [], [], [], hW', trodAll_cons_mk (shut_bool Tryz.underlying4 _) trodAll_mk0, (trodAll_cons_mk (shut_int Tryz.underlying5 w0) (trodAll_cons_mk (shut_int Tryz.underlying5 w1) (trodAll_cons_mk (shut_int Tryz.underlying5 w2) trodAll_mk0))), rfl, hb.frame _, fun h => by cases h⟩

set_option maxRecDepth 100000 in
theorem lifted (os : Os) (started : os.Started) (H : Type) (enc : TypeId × Value → H) (F : Stop.Interp) :
    ReturnsInHanded {} Tryz.checked os 10 .any ((OpenSpec.ofChange Rows.fieldStepsSpec).preRow enc Tryz.prog Tryz.f10 Rows.fieldStepsRow.domain false Rows.fieldStepsRow.laid) (((OpenSpec.ofChange Rows.fieldStepsSpec).at F).post enc Tryz.prog Tryz.f10 false true false false) := by
  refine returnsInHanded_of_row (C := Tryz.checked) (s := OpenSpec.ofChange Rows.fieldStepsSpec) FRow.own started (by kernel_rfl) Tryz.func10
    (ChangeSpec.witness_shaped (enc := enc) (C := Tryz.checked) (os := os) (X := fun w _ => laidMetH Tryz.prog FRow.laidL w) false (World.laidAll Tryz.prog os FRow.laidL) #[.int .u8 0, .int .u8 0, .int .u8 0] 8 (World.laidAll_os _ _ _)
      (FRow.wit_shaped os _) (by kernel_rfl) (by kernel_rfl) (by kernel_rfl) (FRow.wit_laid os _)) ?_
  intro W base args ds gs before hval hW _ _ _ hL hS _
  exact contract H enc W base args ds gs before hval hW hL hS

theorem said : Rows.FieldStepsSaid :=
  OpenClaim.holds_of_cond 10 Tryz.f10 rfl rfl rfl rfl rfl rfl rfl ⟨rfl, rfl, rfl, rfl, rfl⟩ rfl rfl rfl rfl rfl (by kernel_rfl) Tryz.func10 (by kernel_rfl)
    (of_decide_eq_true (by kernel_rfl)) (by unfold Func.isWrapper; first | (rw [if_pos (by decide +kernel)]; kernel_rfl) | (rw [if_neg (by decide +kernel)]; exact ⟨rfl, rfl⟩))
    (fun os started H enc _ F => by rw [OpenClaim.pre_eq_preRow]; exact lifted os started H enc F)

theorem plain (f : FuncId) (fn : Func) (hf : Tryz.pinned.checked.prog.funcNamed "wakeman/wakemanlaw06.FieldSteps" = some f) (hfn : Tryz.pinned.checked.prog.funcs[f]? = some fn) :
    true = Tryz.pinned.checked.prog.looks [] ∧ ∀ (j : Nat) t, fn.params[j]? = some t → Tryz.pinned.checked.prog.wantsStandIn t = false := by
  obtain rfl : f = 10 := Option.some.inj ((show Tryz.prog.funcNamed "wakeman/wakemanlaw06.FieldSteps" = some 10 by kernel_rfl).symm.trans hf) |>.symm
  obtain rfl : fn = Tryz.f10 := (Option.some.inj (Tryz.func10.symm.trans hfn)).symm
  refine ⟨by kernel_rfl, fun j t ht => ?_⟩
  rw [Tryz.params10] at ht
  have hm : t ∈ [5, 5, 5] := by simpa using Array.mem_of_getElem? ht
  have hall : ([5, 5, 5].all fun u => !Tryz.prog.wantsStandIn u) = true := by kernel_rfl
  exact (show Tryz.prog.wantsStandIn t = false by simpa using List.all_eq_true.1 hall t hm)

theorem card : Rows.FieldStepsCardSaid :=
  Claim7.holds_tied_plain_at .later [] _ _ _ _ said (fun _ h => by cases h) (by kernel_rfl) (fun _ h => by cases h) fieldSteps_row_tie rfl ⟨rfl, rfl⟩ (by kernel_rfl) rfl plain (by kernel_rfl)
#print axioms card
end Go.Proofs.YtfhcnndleaoobaaGreatDoor.fieldSteps
