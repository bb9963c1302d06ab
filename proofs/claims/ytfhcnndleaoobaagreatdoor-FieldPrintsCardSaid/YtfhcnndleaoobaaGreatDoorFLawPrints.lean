/-
  FieldPrints: the walk, the row, the card.
-/
import Derived.Test.YtfhcnndleaoobaaGreatDoorFRow
import Derived.Test.YtfhcnndleaoobaaGreatDoorFOpen
import Derived.Test.YtfhcnndleaoobaaGreatDoorFSixJoin
import Derived.Test.YtfhcnndleaoobaaGreatDoorFNameR
set_option linter.unusedVariables false
set_option linter.unusedSimpArgs false
namespace Go.Proofs.YtfhcnndleaoobaaGreatDoor.fieldPrints
open Go.ChangeShapes Go.WideShapes Go.ChangeAt Go.RowKit

set_option maxRecDepth 100000 in
set_option maxHeartbeats 4000000 in
theorem walk (lo hi : Int) (A : Option Addr) (l : List ByteArray) (c : Nat) (week : Bool) (set : Int) (star : Bool) (ws : (Lit.int .u64 set).wf = true) (w : World) (hT : Tabs w) (hlo1 : -9223372036854775808 ≤ lo) (hlo2 : lo ≤ 9223372036854775807) (hhi1 : -9223372036854775808 ≤ hi) (hhi2 : hi ≤ 9223372036854775807) (hcc : l.length ≤ c) (hlm : c ≤ maxLen) (hN : Names w w.heap.size A l) (hsz : ∀ s ∈ l, s.size ≤ maxLen) (hAc : A = none → c = 0) :
    Calls Tryz.prog 4 #[.agg #[.int .i64 lo, .int .i64 hi, .slice A l.length c, .bool week], .int .u64 set, .bool star] w fun e w' => e = .returned (.bool true) ∧ Below w.heap.size w w' := by
  have HN := Lib.hid hN
  have HT := Lib.hid hT
  have HSZ := Lib.hid hsz
  cases hsh : shortB l with
  | false =>
    have GS : Hid (∀ W, Names W W.heap.size A l → Calls Tryz.prog 13 #[.agg #[.int .i64 lo, .int .i64 hi, .slice A l.length c, .bool week]] W fun e w' => e = .returned (.bool false) ∧ Below W.heap.size W w') := Lib.hid fun W h => by have := kind_short W lo hi A c l week hcc hlm h hsz; rw [hsh] at this; exact this
    clear hsh hT hN hsz hAc
    go_enter Tryz.func4, Tryz.ntmps4
    go_wp2_with (first
      | (go_at_call 13; (with_reducible refine (GS.out _ (HN.out.alloc _)).mono ?_); rintro e x1 ⟨rfl, hb1⟩
         have B1 := Lib.hid (hb1.mono (B' := w.heap.size + 1) (by simp)); have N1 := Lib.hid ((HN.out.alloc _).below hb1 hb1.size); have T1 := Lib.hid ((HT.out.alloc _).grow hb1)
         have hc1 : ∀ b o, b < w.heap.size + 1 → x1.cell? ⟨b, o, none⟩ = (w.alloc (.cells #[.int .i64 lo, .int .i64 hi, .slice A l.length c, .bool week] 24)).cell? ⟨b, o, none⟩ := fun b o h => B1.out.cell (p := ⟨b, o, none⟩) h
         have s1 : w.heap.size < x1.heap.size := by have := B1.out.size; simp at this; omega
         clear hb1)
      | (go_at_call 14; (with_reducible refine (works_true _ T1.out).mono ?_); rintro e x2 ⟨rfl, hb2⟩
         have B2 := Lib.hid (B1.out.trans (hb2.mono (by have := B1.out.size; simp only [World.size_alloc] at this ⊢; omega))); have N2 := Lib.hid (N1.out.below hb2 hb2.size); have T2 := Lib.hid (T1.out.grow hb2)
         have hc2 : ∀ b o, b < w.heap.size + 1 → x2.cell? ⟨b, o, none⟩ = (w.alloc (.cells #[.int .i64 lo, .int .i64 hi, .slice A l.length c, .bool week] 24)).cell? ⟨b, o, none⟩ := fun b o h => B2.out.cell (p := ⟨b, o, none⟩) h; clear hb2))
    go_ret
    exact ⟨rfl, ((Below.refl _ _).alloc (Nat.le_refl _) _).trans (B2.out.mono (Nat.le_succ _))⟩
  | true =>
    have GS : Hid (∀ W, Names W W.heap.size A l → Calls Tryz.prog 13 #[.agg #[.int .i64 lo, .int .i64 hi, .slice A l.length c, .bool week]] W fun e w' => e = .returned (.bool true) ∧ Below W.heap.size W w') := Lib.hid fun W h => by have := kind_short W lo hi A c l week hcc hlm h hsz; rw [hsh] at this; exact this
    obtain ⟨hl70, hl20⟩ := short_facts hsh
    have hl1000 : ∀ s ∈ l, s.size ≤ 1000 := fun s hs => Nat.le_trans (hl20 s hs) (by decide)

    obtain ⟨q, rfl, hq⟩ := u64_nat ws
    have g1 : ∀ W, Names W W.heap.size A l → Tabs W → Calls Tryz.prog 22 #[.agg #[.int .i64 lo, .int .i64 hi, .slice A l.length c, .bool week], .int .u64 q, .bool star] W fun e w' => e = .returned (retPrint (Fs.printB (kind lo hi l week) q star)) ∧ Below W.heap.size W w' := fun W h hT => field_Print W lo hi A c l week q star hlo1 hlo2 hhi1 hhi2 (by omega) hcc h hl1000 hq hT
    have g2 : ∀ W, Names W W.heap.size A l → Calls Tryz.prog 23 #[.agg #[.int .i64 lo, .int .i64 hi, .slice A l.length c, .bool week], .int .u64 q, .bool star] W fun e w' => e = .returned (retPrint (Fs.printB (kind lo hi l week) q star)) ∧ Below W.heap.size W w' := fun W h => ref_Print W lo hi A c l week q star hlo1 hlo2 hhi1 hhi2 (by omega) hcc h hl1000 hq
    have g3 : ∀ W, Names W W.heap.size A l → Calls Tryz.prog 24 #[.agg #[.int .i64 lo, .int .i64 hi, .slice A l.length c, .bool week]] W fun e w' => e = .returned (retFull (Fs.fullB (kind lo hi l week))) ∧ Below W.heap.size W w' := fun W h => field_Full W lo hi A c l week hlo1 hlo2 hhi1 hhi2 (by omega) hcc h hl1000
    have g4 : ∀ W, Names W W.heap.size A l → Calls Tryz.prog 25 #[.agg #[.int .i64 lo, .int .i64 hi, .slice A l.length c, .bool week]] W fun e w' => e = .returned (retFull (Fs.fullB (kind lo hi l week))) ∧ Below W.heap.size W w' := fun W h => ref_Full W lo hi A c l week hlo1 hlo2 hhi1 hhi2 (by omega) hcc h hl1000
    have g5 : ∀ W, Names W W.heap.size A l → Calls Tryz.prog 26 #[.agg #[.int .i64 lo, .int .i64 hi, .slice A l.length c, .bool week]] W fun e w' => e = .returned (.int .i64 (Fs.errOf (Fs.checkB (kind lo hi l week)))) ∧ Below W.heap.size W w' := fun W h => field_Check lo hi A c l week W hlo1 hlo2 hhi1 hhi2 (by omega) hcc h hl1000
    have g6 : ∀ W, Names W W.heap.size A l → Calls Tryz.prog 27 #[.agg #[.int .i64 lo, .int .i64 hi, .slice A l.length c, .bool week]] W fun e w' => e = .returned (.int .i64 (Fs.errOf (Fs.checkB (kind lo hi l week)))) ∧ Below W.heap.size W w' := fun W h => ref_Check lo hi A c l week W hlo1 hlo2 hhi1 hhi2 (by omega) hcc h hl1000
    generalize Fs.printB (kind lo hi l week) q star = P at *
    generalize Fs.fullB (kind lo hi l week) = Q at *
    generalize Fs.errOf (Fs.checkB (kind lo hi l week)) = er at *
    obtain ⟨t, a⟩ := P
    obtain ⟨S, g⟩ := Q
    simp only [retPrint, retFull] at g1 g2 g3 g4
    generalize (ByteArray.mk t.toArray) = tt at g1 g2
    have G1 := Lib.hid g1; have G2 := Lib.hid g2; have G3 := Lib.hid g3; have G4 := Lib.hid g4; have G5 := Lib.hid g5; have G6 := Lib.hid g6
    clear g1 g2 g3 g4 g5 g6 hsh hT hN hsz hAc hl70 hl20 hl1000
    go_enter Tryz.func4, Tryz.ntmps4
    go_wp2_with (first
      | (go_at_call 13; (with_reducible refine (GS.out _ (HN.out.alloc _)).mono ?_); rintro e x1 ⟨rfl, hb1⟩
         have B1 := Lib.hid (hb1.mono (B' := w.heap.size + 1) (by simp)); have N1 := Lib.hid ((HN.out.alloc _).below hb1 hb1.size); have T1 := Lib.hid ((HT.out.alloc _).grow hb1)
         have hc1 : ∀ b o, b < w.heap.size + 1 → x1.cell? ⟨b, o, none⟩ = (w.alloc (.cells #[.int .i64 lo, .int .i64 hi, .slice A l.length c, .bool week] 24)).cell? ⟨b, o, none⟩ := fun b o h => B1.out.cell (p := ⟨b, o, none⟩) h
         have s1 : w.heap.size < x1.heap.size := by have := B1.out.size; simp at this; omega
         clear hb1)
      | (go_at_call 16; (with_reducible refine (kind_spec _ lo hi A l.length c week).mono ?_); rintro e x2 ⟨rfl, hb2⟩
         have B2 := Lib.hid (B1.out.trans (hb2.mono (by have := B1.out.size; simp only [World.size_alloc] at this ⊢; omega))); have N2 := Lib.hid (N1.out.below hb2 hb2.size); have T2 := Lib.hid (T1.out.grow hb2)
         have hc2 : ∀ b o, b < w.heap.size + 1 → x2.cell? ⟨b, o, none⟩ = (w.alloc (.cells #[.int .i64 lo, .int .i64 hi, .slice A l.length c, .bool week] 24)).cell? ⟨b, o, none⟩ := fun b o h => B2.out.cell (p := ⟨b, o, none⟩) h; clear hb2)
      | (go_at_call 22; (with_reducible refine (G1.out _ N2.out T2.out).mono ?_); rintro e x3 ⟨rfl, hb2⟩
         have B3 := Lib.hid (B2.out.trans (hb2.mono (by have := B2.out.size; simp only [World.size_alloc] at this ⊢; omega))); have N3 := Lib.hid (N2.out.below hb2 hb2.size); have T3 := Lib.hid (T2.out.grow hb2)
         have hc3 : ∀ b o, b < w.heap.size + 1 → x3.cell? ⟨b, o, none⟩ = (w.alloc (.cells #[.int .i64 lo, .int .i64 hi, .slice A l.length c, .bool week] 24)).cell? ⟨b, o, none⟩ := fun b o h => B3.out.cell (p := ⟨b, o, none⟩) h; clear hb2)
      | (go_at_call 18; (with_reducible refine (kind_ref _ lo hi A l.length c week).mono ?_); rintro e x4 ⟨rfl, hb2⟩
         have B4 := Lib.hid (B3.out.trans (hb2.mono (by have := B3.out.size; simp only [World.size_alloc] at this ⊢; omega))); have N4 := Lib.hid (N3.out.below hb2 hb2.size); have T4 := Lib.hid (T3.out.grow hb2)
         have hc4 : ∀ b o, b < w.heap.size + 1 → x4.cell? ⟨b, o, none⟩ = (w.alloc (.cells #[.int .i64 lo, .int .i64 hi, .slice A l.length c, .bool week] 24)).cell? ⟨b, o, none⟩ := fun b o h => B4.out.cell (p := ⟨b, o, none⟩) h; clear hb2)
      | (go_at_call 23; (with_reducible refine (G2.out _ N4.out).mono ?_); rintro e x5 ⟨rfl, hb2⟩
         have B5 := Lib.hid (B4.out.trans (hb2.mono (by have := B4.out.size; simp only [World.size_alloc] at this ⊢; omega))); have N5 := Lib.hid (N4.out.below hb2 hb2.size); have T5 := Lib.hid (T4.out.grow hb2)
         have hc5 : ∀ b o, b < w.heap.size + 1 → x5.cell? ⟨b, o, none⟩ = (w.alloc (.cells #[.int .i64 lo, .int .i64 hi, .slice A l.length c, .bool week] 24)).cell? ⟨b, o, none⟩ := fun b o h => B5.out.cell (p := ⟨b, o, none⟩) h; clear hb2)
      | (go_at_call 16; (with_reducible refine (kind_spec _ lo hi A l.length c week).mono ?_); rintro e x6 ⟨rfl, hb2⟩
         have B6 := Lib.hid (B5.out.trans (hb2.mono (by have := B5.out.size; simp only [World.size_alloc] at this ⊢; omega))); have N6 := Lib.hid (N5.out.below hb2 hb2.size); have T6 := Lib.hid (T5.out.grow hb2)
         have hc6 : ∀ b o, b < w.heap.size + 1 → x6.cell? ⟨b, o, none⟩ = (w.alloc (.cells #[.int .i64 lo, .int .i64 hi, .slice A l.length c, .bool week] 24)).cell? ⟨b, o, none⟩ := fun b o h => B6.out.cell (p := ⟨b, o, none⟩) h; clear hb2)
      | (go_at_call 24; (with_reducible refine (G3.out _ N6.out).mono ?_); rintro e x7 ⟨rfl, hb2⟩
         have B7 := Lib.hid (B6.out.trans (hb2.mono (by have := B6.out.size; simp only [World.size_alloc] at this ⊢; omega))); have N7 := Lib.hid (N6.out.below hb2 hb2.size); have T7 := Lib.hid (T6.out.grow hb2)
         have hc7 : ∀ b o, b < w.heap.size + 1 → x7.cell? ⟨b, o, none⟩ = (w.alloc (.cells #[.int .i64 lo, .int .i64 hi, .slice A l.length c, .bool week] 24)).cell? ⟨b, o, none⟩ := fun b o h => B7.out.cell (p := ⟨b, o, none⟩) h; clear hb2)
      | (go_at_call 18; (with_reducible refine (kind_ref _ lo hi A l.length c week).mono ?_); rintro e x8 ⟨rfl, hb2⟩
         have B8 := Lib.hid (B7.out.trans (hb2.mono (by have := B7.out.size; simp only [World.size_alloc] at this ⊢; omega))); have N8 := Lib.hid (N7.out.below hb2 hb2.size); have T8 := Lib.hid (T7.out.grow hb2)
         have hc8 : ∀ b o, b < w.heap.size + 1 → x8.cell? ⟨b, o, none⟩ = (w.alloc (.cells #[.int .i64 lo, .int .i64 hi, .slice A l.length c, .bool week] 24)).cell? ⟨b, o, none⟩ := fun b o h => B8.out.cell (p := ⟨b, o, none⟩) h; clear hb2)
      | (go_at_call 25; (with_reducible refine (G4.out _ N8.out).mono ?_); rintro e x9 ⟨rfl, hb2⟩
         have B9 := Lib.hid (B8.out.trans (hb2.mono (by have := B8.out.size; simp only [World.size_alloc] at this ⊢; omega))); have N9 := Lib.hid (N8.out.below hb2 hb2.size); have T9 := Lib.hid (T8.out.grow hb2)
         have hc9 : ∀ b o, b < w.heap.size + 1 → x9.cell? ⟨b, o, none⟩ = (w.alloc (.cells #[.int .i64 lo, .int .i64 hi, .slice A l.length c, .bool week] 24)).cell? ⟨b, o, none⟩ := fun b o h => B9.out.cell (p := ⟨b, o, none⟩) h; clear hb2))
    clear B1 N1 T1 hc1 B2 N2 T2 hc2 B3 N3 T3 hc3 B4 N4 T4 hc4 B5 N5 T5 hc5 B6 N6 T6 hc6 B7 N7 T7 hc7 B8 N8 T8 hc8 G1 G2 G3 G4 GS HN HT HSZ
    have e1 : (tt.toList == tt.toList) = true := by rw [beq_self_eq_true]
    have z0 : (w.alloc (.cells #[.int .i64 lo, .int .i64 hi, .slice A l.length c, .bool week] 24)).cell? ⟨w.heap.size, 0, none⟩ = some (.int .i64 lo) := by rw [World.cell?_alloc_at _ _ _ _ rfl]; rfl
    have z1 : (w.alloc (.cells #[.int .i64 lo, .int .i64 hi, .slice A l.length c, .bool week] 24)).cell? ⟨w.heap.size, 1, none⟩ = some (.int .i64 hi) := by rw [World.cell?_alloc_at _ _ _ _ rfl]; rfl
    have z2 : (w.alloc (.cells #[.int .i64 lo, .int .i64 hi, .slice A l.length c, .bool week] 24)).cell? ⟨w.heap.size, 2, none⟩ = some (.slice A l.length c) := by rw [World.cell?_alloc_at _ _ _ _ rfl]; rfl
    have z3 : (w.alloc (.cells #[.int .i64 lo, .int .i64 hi, .slice A l.length c, .bool week] 24)).cell? ⟨w.heap.size, 3, none⟩ = some (.bool week) := by rw [World.cell?_alloc_at _ _ _ _ rfl]; rfl
    have c0 := (hc9 w.heap.size 0 (Nat.lt_succ_self _)).trans z0
    have c1 := (hc9 w.heap.size 1 (Nat.lt_succ_self _)).trans z1
    have c2 := (hc9 w.heap.size 2 (Nat.lt_succ_self _)).trans z2
    have c3 := (hc9 w.heap.size 3 (Nat.lt_succ_self _)).trans z3
    clear hc9
    have hB := B9.out.drew; have hN : Names x9.drew x9.drew.heap.size A l := N9.out.drew; have hT := T9.out.drew
    clear B9 N9 T9
    have B9 := Lib.hid hB; have N9 := Lib.hid hN; have T9 := Lib.hid hT
    clear hB hN hT
    go_region_held3 (fun w' => w'.cell? ⟨w.heap.size, 0, none⟩ = some (.int .i64 lo) ∧ w'.cell? ⟨w.heap.size, 1, none⟩ = some (.int .i64 hi) ∧ w'.cell? ⟨w.heap.size, 2, none⟩ = some (.slice A l.length c) ∧ w'.cell? ⟨w.heap.size, 3, none⟩ = some (.bool week)) (first | (exact ⟨(B14.out.cell (p := ⟨w.heap.size, 0, none⟩) (Nat.lt_succ_self _)).trans z0, (B14.out.cell (p := ⟨w.heap.size, 1, none⟩) (Nat.lt_succ_self _)).trans z1, (B14.out.cell (p := ⟨w.heap.size, 2, none⟩) (Nat.lt_succ_self _)).trans z2, (B14.out.cell (p := ⟨w.heap.size, 3, none⟩) (Nat.lt_succ_self _)).trans z3⟩) | (exact ⟨(B13.out.cell (p := ⟨w.heap.size, 0, none⟩) (Nat.lt_succ_self _)).trans z0, (B13.out.cell (p := ⟨w.heap.size, 1, none⟩) (Nat.lt_succ_self _)).trans z1, (B13.out.cell (p := ⟨w.heap.size, 2, none⟩) (Nat.lt_succ_self _)).trans z2, (B13.out.cell (p := ⟨w.heap.size, 3, none⟩) (Nat.lt_succ_self _)).trans z3⟩) | (exact ⟨(B12.out.cell (p := ⟨w.heap.size, 0, none⟩) (Nat.lt_succ_self _)).trans z0, (B12.out.cell (p := ⟨w.heap.size, 1, none⟩) (Nat.lt_succ_self _)).trans z1, (B12.out.cell (p := ⟨w.heap.size, 2, none⟩) (Nat.lt_succ_self _)).trans z2, (B12.out.cell (p := ⟨w.heap.size, 3, none⟩) (Nat.lt_succ_self _)).trans z3⟩) | (exact ⟨(B11.out.cell (p := ⟨w.heap.size, 0, none⟩) (Nat.lt_succ_self _)).trans z0, (B11.out.cell (p := ⟨w.heap.size, 1, none⟩) (Nat.lt_succ_self _)).trans z1, (B11.out.cell (p := ⟨w.heap.size, 2, none⟩) (Nat.lt_succ_self _)).trans z2, (B11.out.cell (p := ⟨w.heap.size, 3, none⟩) (Nat.lt_succ_self _)).trans z3⟩) | (exact ⟨(B10.out.cell (p := ⟨w.heap.size, 0, none⟩) (Nat.lt_succ_self _)).trans z0, (B10.out.cell (p := ⟨w.heap.size, 1, none⟩) (Nat.lt_succ_self _)).trans z1, (B10.out.cell (p := ⟨w.heap.size, 2, none⟩) (Nat.lt_succ_self _)).trans z2, (B10.out.cell (p := ⟨w.heap.size, 3, none⟩) (Nat.lt_succ_self _)).trans z3⟩) | (exact ⟨(B9.out.cell (p := ⟨w.heap.size, 0, none⟩) (Nat.lt_succ_self _)).trans z0, (B9.out.cell (p := ⟨w.heap.size, 1, none⟩) (Nat.lt_succ_self _)).trans z1, (B9.out.cell (p := ⟨w.heap.size, 2, none⟩) (Nat.lt_succ_self _)).trans z2, (B9.out.cell (p := ⟨w.heap.size, 3, none⟩) (Nat.lt_succ_self _)).trans z3⟩) | go_keep)
      (first
        | (go_at_call 16; (with_reducible refine (kind_spec _ lo hi A l.length c week).mono ?_); rintro e x10 ⟨rfl, hb2⟩
           have B10 := Lib.hid (B9.out.trans (hb2.mono (by have := B9.out.size; simp only [World.size_alloc] at this; omega))); have N10 := Lib.hid (N9.out.below hb2 hb2.size); have T10 := Lib.hid (T9.out.grow hb2); clear hb2)
        | (go_at_call 26; (with_reducible refine (G5.out _ N10.out).mono ?_); rintro e x11 ⟨rfl, hb2⟩
           have B11 := Lib.hid (B10.out.trans (hb2.mono (by have := B10.out.size; simp only [World.size_alloc] at this; omega))); have N11 := Lib.hid (N10.out.below hb2 hb2.size); have T11 := Lib.hid (T10.out.grow hb2); clear hb2)
        | (go_at_call 18; (with_reducible refine (kind_ref _ lo hi A l.length c week).mono ?_); rintro e x12 ⟨rfl, hb2⟩
           have B12 := Lib.hid (B11.out.trans (hb2.mono (by have := B11.out.size; simp only [World.size_alloc] at this; omega))); have N12 := Lib.hid (N11.out.below hb2 hb2.size); have T12 := Lib.hid (T11.out.grow hb2); clear hb2)
        | (go_at_call 27; (with_reducible refine (G6.out _ N12.out).mono ?_); rintro e x13 ⟨rfl, hb2⟩
           have B13 := Lib.hid (B12.out.trans (hb2.mono (by have := B12.out.size; simp only [World.size_alloc] at this; omega))); have N13 := Lib.hid (N12.out.below hb2 hb2.size); have T13 := Lib.hid (T12.out.grow hb2); clear hb2)
        | (go_at_call 14; (with_reducible refine (works_true _ T13.out).mono ?_); rintro e x14 ⟨rfl, hb2⟩
           have B14 := Lib.hid (B13.out.trans (hb2.mono (by have := B13.out.size; simp only [World.size_alloc] at this; omega))); have N14 := Lib.hid (N13.out.below hb2 hb2.size); have T14 := Lib.hid (T13.out.grow hb2); clear hb2))
    go_wp2_with fail
    go_ret
    exact ⟨rfl, ((Below.refl _ _).alloc (Nat.le_refl _) _).trans (B14.out.mono (Nat.le_succ _))⟩


set_option maxRecDepth 100000 in
theorem contract (H : Type) (enc : TypeId × Value → H) (W : World) (base : Nat) (args : Array Value) (ds gs : List (DataW H)) (before : List MemPlace)
    (hval : ∀ (j : Nat) t v, Tryz.f4.params[j]? = some t → args[j]? = some v → Value.okWide Tryz.prog W .any base t v)
    (hW : DataW.Whole enc Tryz.prog Tryz.f4.params.toList Rows.fieldPrintsSpec.vars false W args.toList ds gs before) (hL : laidMetH Tryz.prog Rows.fieldPrintsRow.laid W) (hS : W.ShapedOpen Tryz.prog) :
    Calls Tryz.prog 4 args W fun e W' => ∃ v, e = .returned v ∧ Rows.fieldPrintsSpec.post enc Tryz.prog Tryz.f4 false true false false W args v W' := by
  have hT : Tabs W := FRow.tabs_of hL hS
  have hW' := hW
  obtain ⟨p, q, hA0, hV, rfl, hfz, hnd⟩ := hW
  have hA : DataW.TrodAll enc Tryz.prog W 0 (fun _ => true) true Tryz.f4.params.toList args.toList ds p := hA0
  rw [Tryz.params4] at hA hval
  obtain ⟨v0, vs0, d0, ds0, p0, q0, hargs, rfl, rfl, h0, r0⟩ := trodAll_cons hA
  obtain ⟨v1, vs1, d1, ds1, p1, q1, rfl, rfl, rfl, h1, r1⟩ := trodAll_cons r0
  obtain ⟨v2, vs2, d2, ds2, p2, q2, rfl, rfl, rfl, h2, r2⟩ := trodAll_cons r1
  obtain ⟨rfl, rfl, rfl⟩ := trodAll_nil r2
  obtain rfl : args = #[v0, v1, v2] := by cases args; simp_all
  obtain ⟨rfl, rfl⟩ := trodVars_none hV
  have h0k := h0
  obtain ⟨lo, hi, A, l, c, week, rfl, hlo1, hlo2, hhi1, hhi2, hcc, hlm, hN, hsz, hAc⟩ := FKind.open_kind (hval 0 24 v0 rfl rfl) h0
  obtain ⟨a1, rfl, rfl, rfl, w1⟩ := open_int Tryz.underlying26 (hval 1 26 v1 rfl rfl) h1
  obtain ⟨a2, rfl, rfl, rfl⟩ := open_bool Tryz.underlying4 (hval 2 4 v2 rfl rfl) h2
  clear hA0
  simp only [List.append_nil] at hW'
  refine (walk lo hi A l c week a1 a2 w1 W hT hlo1 hlo2 hhi1 hhi2 hcc hlm hN hsz hAc).mono fun e W' ⟨he, hb⟩ => ?_
  subst he
  exact ⟨_, rfl, _, _, _, [], _, [], hW', trodAll_cons_mk (shut_bool Tryz.underlying4 _) trodAll_mk0, (trodAll_cons_mk (Below.trod (by kernel_rfl) (by kernel_rfl) (of_decide_eq_true (by kernel_rfl)) h0k hb (fun x hx => hW'.lt x (by simpa using hx))) (trodAll_cons_mk (shut_int Tryz.underlying26 w1) (trodAll_cons_mk (shut_bool Tryz.underlying4 _) trodAll_mk0))), rfl, hb.frame _, fun h => by cases h⟩

set_option maxRecDepth 100000 in
theorem lifted (os : Os) (started : os.Started) (H : Type) (enc : TypeId × Value → H) (F : Stop.Interp) :
    ReturnsInHanded {} Tryz.checked os 4 .any ((OpenSpec.ofChange Rows.fieldPrintsSpec).preRow enc Tryz.prog Tryz.f4 Rows.fieldPrintsRow.domain false Rows.fieldPrintsRow.laid) (((OpenSpec.ofChange Rows.fieldPrintsSpec).at F).post enc Tryz.prog Tryz.f4 false true false false) := by
  refine returnsInHanded_of_row (C := Tryz.checked) (s := OpenSpec.ofChange Rows.fieldPrintsSpec) FRow.own started (by kernel_rfl) Tryz.func4
    (ChangeSpec.witness_shaped (enc := enc) (C := Tryz.checked) (os := os) (X := fun w _ => laidMetH Tryz.prog FRow.laidL w) false (World.laidAll Tryz.prog os FRow.laidL) #[.agg #[.int .i64 0, .int .i64 0, .slice none 0 0, .bool false], .int .u64 0, .bool false] 8 (World.laidAll_os _ _ _)
      (FRow.wit_shaped os _) (by kernel_rfl) (by kernel_rfl) (by kernel_rfl) (FRow.wit_laid os _)) ?_
  intro W base args ds gs before hval hW _ _ _ hL hS _
  exact contract H enc W base args ds gs before hval hW hL hS

theorem said : Rows.FieldPrintsSaid :=
  OpenClaim.holds_of_cond 4 Tryz.f4 rfl rfl rfl rfl rfl rfl rfl ⟨rfl, rfl, rfl, rfl, rfl⟩ rfl rfl rfl rfl rfl (by kernel_rfl) Tryz.func4 (by kernel_rfl)
    (of_decide_eq_true (by kernel_rfl)) (by unfold Func.isWrapper; first | (rw [if_pos (by decide +kernel)]; kernel_rfl) | (rw [if_neg (by decide +kernel)]; exact ⟨rfl, rfl⟩))
    (fun os started H enc _ F => by rw [OpenClaim.pre_eq_preRow]; exact lifted os started H enc F)

theorem plain (f : FuncId) (fn : Func) (hf : Tryz.pinned.checked.prog.funcNamed "wakeman/wakemanlaw06.FieldPrints" = some f) (hfn : Tryz.pinned.checked.prog.funcs[f]? = some fn) :
    true = Tryz.pinned.checked.prog.looks [] ∧ ∀ (j : Nat) t, fn.params[j]? = some t → Tryz.pinned.checked.prog.wantsStandIn t = false := by
  obtain rfl : f = 4 := Option.some.inj ((show Tryz.prog.funcNamed "wakeman/wakemanlaw06.FieldPrints" = some 4 by kernel_rfl).symm.trans hf) |>.symm
  obtain rfl : fn = Tryz.f4 := (Option.some.inj (Tryz.func4.symm.trans hfn)).symm
  refine ⟨by kernel_rfl, fun j t ht => ?_⟩
  rw [Tryz.params4] at ht
  have hm : t ∈ [24, 26, 4] := by simpa using Array.mem_of_getElem? ht
  have hall : ([24, 26, 4].all fun u => !Tryz.prog.wantsStandIn u) = true := by kernel_rfl
  exact (show Tryz.prog.wantsStandIn t = false by simpa using List.all_eq_true.1 hall t hm)

theorem card : Rows.FieldPrintsCardSaid :=
  Claim7.holds_tied_plain_at .later [] _ _ _ _ said (fun _ h => by cases h) (by kernel_rfl) (fun _ h => by cases h) fieldPrints_row_tie rfl ⟨rfl, rfl⟩ (by kernel_rfl) rfl plain (by kernel_rfl)
#print axioms card
end Go.Proofs.YtfhcnndleaoobaaGreatDoor.fieldPrints
