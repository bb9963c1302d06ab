/-
  FieldNames: the walk, the row, the card.
-/
import Derived.Test.YtfhcnndleaoobaaGreatDoorFRow
import Derived.Test.YtfhcnndleaoobaaGreatDoorFOpen
import Derived.Test.YtfhcnndleaoobaaGreatDoorFSixJoin
import Derived.Test.YtfhcnndleaoobaaGreatDoorFNameR
import Derived.Test.YtfhcnndleaoobaaGreatDoorFNames
set_option linter.unusedVariables false
set_option linter.unusedSimpArgs false
namespace Go.Proofs.YtfhcnndleaoobaaGreatDoor.fieldNames
open Go.ChangeShapes Go.WideShapes Go.ChangeAt Go.RowKit

theorem texts_nil (W : World) (A B : Option Addr) (c d : Nat) : Calls Tryz.prog 21 #[.slice A 0 c, .slice B 0 d] W fun e w' => e = .returned (.bool true) ∧ Below W.heap.size W w' :=
  texts_same W A B c d [] (by simp) (.inl rfl) (.inl rfl)
theorem texts_m (W : World) (A B : Option Addr) (hA : Names W W.heap.size A monthsB) (hB : Names W W.heap.size B monthsB) : Calls Tryz.prog 21 #[.slice A 12 12, .slice B 12 12] W fun e w' => e = .returned (.bool true) ∧ Below W.heap.size W w' :=
  texts_same W A B 12 12 monthsB (by decide) hA hB
theorem texts_d (W : World) (A B : Option Addr) (hA : Names W W.heap.size A daysB) (hB : Names W W.heap.size B daysB) : Calls Tryz.prog 21 #[.slice A 7 7, .slice B 7 7] W fun e w' => e = .returned (.bool true) ∧ Below W.heap.size W w' :=
  texts_same W A B 7 7 daysB (by decide) hA hB
set_option maxRecDepth 100000 in
set_option maxHeartbeats 4000000 in
theorem walk (lo hi : Int) (A : Option Addr) (l : List ByteArray) (c : Nat) (week : Bool) (v : Int) (ws : (Lit.int .i64 v).wf = true) (w : World) (hT : Tabs w) (hlo1 : -9223372036854775808 ≤ lo) (hlo2 : lo ≤ 9223372036854775807) (hhi1 : -9223372036854775808 ≤ hi) (hhi2 : hi ≤ 9223372036854775807) (hcc : l.length ≤ c) (hlm : c ≤ maxLen) (hN : Names w w.heap.size A l) (hsz : ∀ s ∈ l, s.size ≤ maxLen) (hAc : A = none → c = 0) :
    Calls Tryz.prog 5 #[.agg #[.int .i64 lo, .int .i64 hi, .slice A l.length c, .bool week], .int .i64 v] w fun e w' => e = .returned (.bool true) ∧ Below w.heap.size w w' := by
  have HN := Lib.hid hN
  have HT := Lib.hid hT
  have HSZ := Lib.hid hsz
  cases hsh : shortB l with
  | false =>
    have GS : Hid (∀ W, Names W W.heap.size A l → Calls Tryz.prog 13 #[.agg #[.int .i64 lo, .int .i64 hi, .slice A l.length c, .bool week]] W fun e w' => e = .returned (.bool false) ∧ Below W.heap.size W w') := Lib.hid fun W h => by have := kind_short W lo hi A c l week hcc hlm h hsz; rw [hsh] at this; exact this
    clear hsh hT hN hsz hAc
    go_enter Tryz.func5, Tryz.ntmps5
    go_wp2_with (first
      | (go_at_call 13; (with_reducible refine (GS.out _ (HN.out.alloc _)).mono ?_); rintro e x1 ⟨rfl, hb1⟩
         have B1 := Lib.hid (hb1.mono (B' := w.heap.size + 1) (by simp)); have N1 := Lib.hid ((HN.out.alloc _).below hb1 hb1.size); have T1 := Lib.hid ((HT.out.alloc _).grow hb1)
         have hc1 : ∀ b o, b < w.heap.size + 1 → x1.cell? ⟨b, o, none⟩ = (w.alloc (.cells #[.int .i64 lo, .int .i64 hi, .slice A l.length c, .bool week] 24)).cell? ⟨b, o, none⟩ := fun b o h => B1.out.cell (p := ⟨b, o, none⟩) h
         have s1 : w.heap.size < x1.heap.size := by have := B1.out.size; simp at this; omega
         clear hb1)
      | (go_at_call 14; (with_reducible refine (works_true _ T1.out).mono ?_); rintro e x2 ⟨rfl, hb2⟩
         have B2 := Lib.hid (B1.out.trans (hb2.mono (by have := B1.out.size; simp only [World.size_alloc] at this ⊢; omega))); have N2 := Lib.hid (N1.out.below hb2 hb2.size); have T2 := Lib.hid (T1.out.grow hb2)
         have hc2 : ∀ b o, b < w.heap.size + 1 → x2.cell? ⟨b, o, none⟩ = (w.alloc (.cells #[.int .i64 lo, .int .i64 hi, .slice A l.length c, .bool week] 24)).cell? ⟨b, o, none⟩ := fun b o h => B2.out.cell (p := ⟨b, o, none⟩) h; clear hb2))
    go_ret
    exact ⟨rfl, ((Below.refl _ _).alloc (Nat.le_refl _) _).trans (B2.out.mono (Nat.le_succ _))⟩
  | true =>
    have GS : Hid (∀ W, Names W W.heap.size A l → Calls Tryz.prog 13 #[.agg #[.int .i64 lo, .int .i64 hi, .slice A l.length c, .bool week]] W fun e w' => e = .returned (.bool true) ∧ Below W.heap.size W w') := Lib.hid fun W h => by have := kind_short W lo hi A c l week hcc hlm h hsz; rw [hsh] at this; exact this
    obtain ⟨hl70, hl20⟩ := short_facts hsh
    have hl1000 : ∀ s ∈ l, s.size ≤ 1000 := fun s hs => Nat.le_trans (hl20 s hs) (by decide)

    have g1 : ∀ W, Names W W.heap.size A l → Calls Tryz.prog 28 #[.agg #[.int .i64 lo, .int .i64 hi, .slice A l.length c, .bool week], .int .i64 v] W fun e w' => e = .returned (retPrint (Fs.nameB (kind lo hi l week) v)) ∧ Below W.heap.size W w' := fun W h => field_Name W lo hi A c l week v hlo1 hlo2 hhi1 hhi2 (by omega) hcc h hl1000
    have g2 : ∀ W, Names W W.heap.size A l → Calls Tryz.prog 29 #[.agg #[.int .i64 lo, .int .i64 hi, .slice A l.length c, .bool week], .int .i64 v] W fun e w' => e = .returned (retPrint (Fs.nameB (kind lo hi l week) v)) ∧ Below W.heap.size W w' := fun W h => ref_Name W lo hi A c l week v hlo1 hlo2 hhi1 hhi2 (by omega) hcc h hl1000
    generalize Fs.nameB (kind lo hi l week) v = P at *
    obtain ⟨t, a⟩ := P
    simp only [retPrint] at g1 g2
    generalize (ByteArray.mk t.toArray) = tt at g1 g2
    have e1 : (tt.toList != tt.toList) = false := by rw [bne, beq_self_eq_true]; rfl
    have e2 : (a != a) = false := by rw [bne, beq_self_eq_true]; rfl
    have G1 := Lib.hid g1; have G2 := Lib.hid g2
    clear g1 g2 hsh hT hN hsz hAc hl70 hl20 hl1000
    go_enter Tryz.func5, Tryz.ntmps5
    go_wp2_with (first
      | (go_at_call 13; (with_reducible refine (GS.out _ (HN.out.alloc _)).mono ?_); rintro e x1 ⟨rfl, hb1⟩
         have B1 := Lib.hid (hb1.mono (B' := w.heap.size + 1) (by simp)); have N1 := Lib.hid ((HN.out.alloc _).below hb1 hb1.size); have T1 := Lib.hid ((HT.out.alloc _).grow hb1)
         have hc1 : ∀ b o, b < w.heap.size + 1 → x1.cell? ⟨b, o, none⟩ = (w.alloc (.cells #[.int .i64 lo, .int .i64 hi, .slice A l.length c, .bool week] 24)).cell? ⟨b, o, none⟩ := fun b o h => B1.out.cell (p := ⟨b, o, none⟩) h
         have s1 : w.heap.size < x1.heap.size := by have := B1.out.size; simp at this; omega
         clear hb1)
      | (go_at_call 16; (with_reducible refine (kind_spec _ lo hi A l.length c week).mono ?_); rintro e x2 ⟨rfl, hb2⟩
         have B2 := Lib.hid (B1.out.trans (hb2.mono (by have := B1.out.size; simp only [World.size_alloc] at this ⊢; omega))); have N2 := Lib.hid (N1.out.below hb2 hb2.size); have T2 := Lib.hid (T1.out.grow hb2)
         have hc2 : ∀ b o, b < w.heap.size + 1 → x2.cell? ⟨b, o, none⟩ = (w.alloc (.cells #[.int .i64 lo, .int .i64 hi, .slice A l.length c, .bool week] 24)).cell? ⟨b, o, none⟩ := fun b o h => B2.out.cell (p := ⟨b, o, none⟩) h; clear hb2)
      | (go_at_call 28; (with_reducible refine (G1.out _ N2.out).mono ?_); rintro e x3 ⟨rfl, hb2⟩
         have B3 := Lib.hid (B2.out.trans (hb2.mono (by have := B2.out.size; simp only [World.size_alloc] at this ⊢; omega))); have N3 := Lib.hid (N2.out.below hb2 hb2.size); have T3 := Lib.hid (T2.out.grow hb2)
         have hc3 : ∀ b o, b < w.heap.size + 1 → x3.cell? ⟨b, o, none⟩ = (w.alloc (.cells #[.int .i64 lo, .int .i64 hi, .slice A l.length c, .bool week] 24)).cell? ⟨b, o, none⟩ := fun b o h => B3.out.cell (p := ⟨b, o, none⟩) h; clear hb2)
      | (go_at_call 18; (with_reducible refine (kind_ref _ lo hi A l.length c week).mono ?_); rintro e x4 ⟨rfl, hb2⟩
         have B4 := Lib.hid (B3.out.trans (hb2.mono (by have := B3.out.size; simp only [World.size_alloc] at this ⊢; omega))); have N4 := Lib.hid (N3.out.below hb2 hb2.size); have T4 := Lib.hid (T3.out.grow hb2)
         have hc4 : ∀ b o, b < w.heap.size + 1 → x4.cell? ⟨b, o, none⟩ = (w.alloc (.cells #[.int .i64 lo, .int .i64 hi, .slice A l.length c, .bool week] 24)).cell? ⟨b, o, none⟩ := fun b o h => B4.out.cell (p := ⟨b, o, none⟩) h; clear hb2)
      | (go_at_call 29; (with_reducible refine (G2.out _ N4.out).mono ?_); rintro e x5 ⟨rfl, hb2⟩
         have B5 := Lib.hid (B4.out.trans (hb2.mono (by have := B4.out.size; simp only [World.size_alloc] at this ⊢; omega))); have N5 := Lib.hid (N4.out.below hb2 hb2.size); have T5 := Lib.hid (T4.out.grow hb2)
         have hc5 : ∀ b o, b < w.heap.size + 1 → x5.cell? ⟨b, o, none⟩ = (w.alloc (.cells #[.int .i64 lo, .int .i64 hi, .slice A l.length c, .bool week] 24)).cell? ⟨b, o, none⟩ := fun b o h => B5.out.cell (p := ⟨b, o, none⟩) h; clear hb2)
      | (go_at_call 30; (with_reducible refine (field_Six _ T5.out).mono ?_); rintro e x6 ⟨g, m, d, rfl, hb2, hS, _⟩
         have B6 := Lib.hid (B5.out.trans (hb2.mono (by have := B5.out.size; simp only [World.size_alloc] at this ⊢; omega))); have N6 := Lib.hid (N5.out.below hb2 hb2.size); have T6 := Lib.hid (T5.out.grow hb2)
         have hc6 : ∀ b o, b < w.heap.size + 1 → x6.cell? ⟨b, o, none⟩ = (w.alloc (.cells #[.int .i64 lo, .int .i64 hi, .slice A l.length c, .bool week] 24)).cell? ⟨b, o, none⟩ := fun b o h => B6.out.cell (p := ⟨b, o, none⟩) h
         have s1 := Lib.hid hS; clear hb2 hS)
      | (go_at_call 31; (with_reducible refine (ref_Six _).mono ?_); rintro e x7 ⟨g', m', d', rfl, hb2, hS'⟩
         have B7 := Lib.hid (B6.out.trans (hb2.mono (by have := B6.out.size; simp only [World.size_alloc] at this ⊢; omega))); have N7 := Lib.hid (N6.out.below hb2 hb2.size); have T7 := Lib.hid (T6.out.grow hb2)
         have hc7 : ∀ b o, b < w.heap.size + 1 → x7.cell? ⟨b, o, none⟩ = (w.alloc (.cells #[.int .i64 lo, .int .i64 hi, .slice A l.length c, .bool week] 24)).cell? ⟨b, o, none⟩ := fun b o h => B7.out.cell (p := ⟨b, o, none⟩) h
         have s2 := Lib.hid hS'; have s3 := Lib.hid (s1.out.grow hb2); clear hb2 hS'))
    clear GS G1 G2 e1 e2 hc2 hc3 hc4 hc5 hc6 hc7 B1 B2 B3 B4 B5 B6 N1 N2 N3 N4 N5 N6 N7 T1 T2 T3 T4 T5 T6 HN HT HSZ s1
    go_loopw [11] (fun i wr => ∃ k : Nat, k ≤ 6 ∧ i = .int .i64 k ∧ Below x7.heap.size x7 wr) (fun i _ => 6 - (intOf i).toNat)
    case atStart => exact ⟨0, by omega, rfl, Below.refl _ _⟩
    case round =>
      obtain ⟨k, hk, rfl, hbr⟩ := hrel
      have S1 := Lib.hid (s3.out.grow hbr)
      have S2 := Lib.hid (s2.out.grow hbr)
      have TR := Lib.hid (T7.out.grow hbr)
      have HBR := Lib.hid hbr; clear hbr
      have g1 := S1.out.lt
      have g2 := S2.out.lt
      rcases (by omega : k = 0 ∨ k = 1 ∨ k = 2 ∨ k = 3 ∨ k = 4 ∨ k = 5 ∨ k = 6) with rfl | rfl | rfl | rfl | rfl | rfl | rfl
      · skip
        have p0 : wr.cell? ⟨g, 0, none⟩ = some (.int .i64 0) := S1.out.cells 0 _ rfl
        have p1 : wr.cell? ⟨g, 1, none⟩ = some (.int .i64 59) := S1.out.cells 1 _ rfl
        have p2 : wr.cell? ⟨g, 2, none⟩ = some (.slice none 0 0) := S1.out.cells 2 _ rfl
        have p3 : wr.cell? ⟨g, 3, none⟩ = some (.bool false) := S1.out.cells 3 _ rfl
        have r0 : wr.cell? ⟨g', 0, none⟩ = some (.int .i64 0) := S2.out.cells 0 _ rfl
        have r1 : wr.cell? ⟨g', 1, none⟩ = some (.int .i64 59) := S2.out.cells 1 _ rfl
        have r2 : wr.cell? ⟨g', 2, none⟩ = some (.slice none 0 0) := S2.out.cells 2 _ rfl
        have r3 : wr.cell? ⟨g', 3, none⟩ = some (.bool false) := S2.out.cells 3 _ rfl
        go_wp2_with fail
        go_region_held3 (fun w' => w'.cell? ⟨g, 0, none⟩ = some (.int .i64 0) ∧ w'.cell? ⟨g, 1, none⟩ = some (.int .i64 59) ∧ w'.cell? ⟨g, 2, none⟩ = some (.slice none 0 0) ∧ w'.cell? ⟨g, 3, none⟩ = some (.bool false) ∧ w'.cell? ⟨g', 0, none⟩ = some (.int .i64 0) ∧ w'.cell? ⟨g', 1, none⟩ = some (.int .i64 59) ∧ w'.cell? ⟨g', 2, none⟩ = some (.slice none 0 0) ∧ w'.cell? ⟨g', 3, none⟩ = some (.bool false)) (first | (exact ⟨(hb2.cell (p := ⟨g, 0, none⟩) g1).trans p0, (hb2.cell (p := ⟨g, 1, none⟩) g1).trans p1, (hb2.cell (p := ⟨g, 2, none⟩) g1).trans p2, (hb2.cell (p := ⟨g, 3, none⟩) g1).trans p3, (hb2.cell (p := ⟨g', 0, none⟩) g2).trans r0, (hb2.cell (p := ⟨g', 1, none⟩) g2).trans r1, (hb2.cell (p := ⟨g', 2, none⟩) g2).trans r2, (hb2.cell (p := ⟨g', 3, none⟩) g2).trans r3⟩) | (exact ⟨p0, p1, p2, p3, r0, r1, r2, r3⟩) | go_keep)
          (first
            | (go_at_call 21; (with_reducible refine (texts_nil _ _ _ _ _).mono ?_); rintro e xt ⟨rfl, hb2⟩
               have HB2 := Lib.hid hb2))
        go_wp2_with fail
        go_roundw
        case rel => exact ⟨1, by omega, by go_num, HBR.out.drew.trans (HB2.out.mono HBR.out.size)⟩
        case measure => simp [intOf]
      · skip
        have p0 : wr.cell? ⟨g, 4, none⟩ = some (.int .i64 0) := S1.out.cells 4 _ rfl
        have p1 : wr.cell? ⟨g, 5, none⟩ = some (.int .i64 59) := S1.out.cells 5 _ rfl
        have p2 : wr.cell? ⟨g, 6, none⟩ = some (.slice none 0 0) := S1.out.cells 6 _ rfl
        have p3 : wr.cell? ⟨g, 7, none⟩ = some (.bool false) := S1.out.cells 7 _ rfl
        have r0 : wr.cell? ⟨g', 4, none⟩ = some (.int .i64 0) := S2.out.cells 4 _ rfl
        have r1 : wr.cell? ⟨g', 5, none⟩ = some (.int .i64 59) := S2.out.cells 5 _ rfl
        have r2 : wr.cell? ⟨g', 6, none⟩ = some (.slice none 0 0) := S2.out.cells 6 _ rfl
        have r3 : wr.cell? ⟨g', 7, none⟩ = some (.bool false) := S2.out.cells 7 _ rfl
        go_wp2_with fail
        go_region_held3 (fun w' => w'.cell? ⟨g, 4, none⟩ = some (.int .i64 0) ∧ w'.cell? ⟨g, 5, none⟩ = some (.int .i64 59) ∧ w'.cell? ⟨g, 6, none⟩ = some (.slice none 0 0) ∧ w'.cell? ⟨g, 7, none⟩ = some (.bool false) ∧ w'.cell? ⟨g', 4, none⟩ = some (.int .i64 0) ∧ w'.cell? ⟨g', 5, none⟩ = some (.int .i64 59) ∧ w'.cell? ⟨g', 6, none⟩ = some (.slice none 0 0) ∧ w'.cell? ⟨g', 7, none⟩ = some (.bool false)) (first | (exact ⟨(hb2.cell (p := ⟨g, 4, none⟩) g1).trans p0, (hb2.cell (p := ⟨g, 5, none⟩) g1).trans p1, (hb2.cell (p := ⟨g, 6, none⟩) g1).trans p2, (hb2.cell (p := ⟨g, 7, none⟩) g1).trans p3, (hb2.cell (p := ⟨g', 4, none⟩) g2).trans r0, (hb2.cell (p := ⟨g', 5, none⟩) g2).trans r1, (hb2.cell (p := ⟨g', 6, none⟩) g2).trans r2, (hb2.cell (p := ⟨g', 7, none⟩) g2).trans r3⟩) | (exact ⟨p0, p1, p2, p3, r0, r1, r2, r3⟩) | go_keep)
          (first
            | (go_at_call 21; (with_reducible refine (texts_nil _ _ _ _ _).mono ?_); rintro e xt ⟨rfl, hb2⟩
               have HB2 := Lib.hid hb2))
        go_wp2_with fail
        go_roundw
        case rel => exact ⟨2, by omega, by go_num, HBR.out.drew.trans (HB2.out.mono HBR.out.size)⟩
        case measure => simp [intOf]
      · skip
        have p0 : wr.cell? ⟨g, 8, none⟩ = some (.int .i64 0) := S1.out.cells 8 _ rfl
        have p1 : wr.cell? ⟨g, 9, none⟩ = some (.int .i64 23) := S1.out.cells 9 _ rfl
        have p2 : wr.cell? ⟨g, 10, none⟩ = some (.slice none 0 0) := S1.out.cells 10 _ rfl
        have p3 : wr.cell? ⟨g, 11, none⟩ = some (.bool false) := S1.out.cells 11 _ rfl
        have r0 : wr.cell? ⟨g', 8, none⟩ = some (.int .i64 0) := S2.out.cells 8 _ rfl
        have r1 : wr.cell? ⟨g', 9, none⟩ = some (.int .i64 23) := S2.out.cells 9 _ rfl
        have r2 : wr.cell? ⟨g', 10, none⟩ = some (.slice none 0 0) := S2.out.cells 10 _ rfl
        have r3 : wr.cell? ⟨g', 11, none⟩ = some (.bool false) := S2.out.cells 11 _ rfl
        go_wp2_with fail
        go_region_held3 (fun w' => w'.cell? ⟨g, 8, none⟩ = some (.int .i64 0) ∧ w'.cell? ⟨g, 9, none⟩ = some (.int .i64 23) ∧ w'.cell? ⟨g, 10, none⟩ = some (.slice none 0 0) ∧ w'.cell? ⟨g, 11, none⟩ = some (.bool false) ∧ w'.cell? ⟨g', 8, none⟩ = some (.int .i64 0) ∧ w'.cell? ⟨g', 9, none⟩ = some (.int .i64 23) ∧ w'.cell? ⟨g', 10, none⟩ = some (.slice none 0 0) ∧ w'.cell? ⟨g', 11, none⟩ = some (.bool false)) (first | (exact ⟨(hb2.cell (p := ⟨g, 8, none⟩) g1).trans p0, (hb2.cell (p := ⟨g, 9, none⟩) g1).trans p1, (hb2.cell (p := ⟨g, 10, none⟩) g1).trans p2, (hb2.cell (p := ⟨g, 11, none⟩) g1).trans p3, (hb2.cell (p := ⟨g', 8, none⟩) g2).trans r0, (hb2.cell (p := ⟨g', 9, none⟩) g2).trans r1, (hb2.cell (p := ⟨g', 10, none⟩) g2).trans r2, (hb2.cell (p := ⟨g', 11, none⟩) g2).trans r3⟩) | (exact ⟨p0, p1, p2, p3, r0, r1, r2, r3⟩) | go_keep)
          (first
            | (go_at_call 21; (with_reducible refine (texts_nil _ _ _ _ _).mono ?_); rintro e xt ⟨rfl, hb2⟩
               have HB2 := Lib.hid hb2))
        go_wp2_with fail
        go_roundw
        case rel => exact ⟨3, by omega, by go_num, HBR.out.drew.trans (HB2.out.mono HBR.out.size)⟩
        case measure => simp [intOf]
      · skip
        have p0 : wr.cell? ⟨g, 12, none⟩ = some (.int .i64 1) := S1.out.cells 12 _ rfl
        have p1 : wr.cell? ⟨g, 13, none⟩ = some (.int .i64 31) := S1.out.cells 13 _ rfl
        have p2 : wr.cell? ⟨g, 14, none⟩ = some (.slice none 0 0) := S1.out.cells 14 _ rfl
        have p3 : wr.cell? ⟨g, 15, none⟩ = some (.bool false) := S1.out.cells 15 _ rfl
        have r0 : wr.cell? ⟨g', 12, none⟩ = some (.int .i64 1) := S2.out.cells 12 _ rfl
        have r1 : wr.cell? ⟨g', 13, none⟩ = some (.int .i64 31) := S2.out.cells 13 _ rfl
        have r2 : wr.cell? ⟨g', 14, none⟩ = some (.slice none 0 0) := S2.out.cells 14 _ rfl
        have r3 : wr.cell? ⟨g', 15, none⟩ = some (.bool false) := S2.out.cells 15 _ rfl
        go_wp2_with fail
        go_region_held3 (fun w' => w'.cell? ⟨g, 12, none⟩ = some (.int .i64 1) ∧ w'.cell? ⟨g, 13, none⟩ = some (.int .i64 31) ∧ w'.cell? ⟨g, 14, none⟩ = some (.slice none 0 0) ∧ w'.cell? ⟨g, 15, none⟩ = some (.bool false) ∧ w'.cell? ⟨g', 12, none⟩ = some (.int .i64 1) ∧ w'.cell? ⟨g', 13, none⟩ = some (.int .i64 31) ∧ w'.cell? ⟨g', 14, none⟩ = some (.slice none 0 0) ∧ w'.cell? ⟨g', 15, none⟩ = some (.bool false)) (first | (exact ⟨(hb2.cell (p := ⟨g, 12, none⟩) g1).trans p0, (hb2.cell (p := ⟨g, 13, none⟩) g1).trans p1, (hb2.cell (p := ⟨g, 14, none⟩) g1).trans p2, (hb2.cell (p := ⟨g, 15, none⟩) g1).trans p3, (hb2.cell (p := ⟨g', 12, none⟩) g2).trans r0, (hb2.cell (p := ⟨g', 13, none⟩) g2).trans r1, (hb2.cell (p := ⟨g', 14, none⟩) g2).trans r2, (hb2.cell (p := ⟨g', 15, none⟩) g2).trans r3⟩) | (exact ⟨p0, p1, p2, p3, r0, r1, r2, r3⟩) | go_keep)
          (first
            | (go_at_call 21; (with_reducible refine (texts_nil _ _ _ _ _).mono ?_); rintro e xt ⟨rfl, hb2⟩
               have HB2 := Lib.hid hb2))
        go_wp2_with fail
        go_roundw
        case rel => exact ⟨4, by omega, by go_num, HBR.out.drew.trans (HB2.out.mono HBR.out.size)⟩
        case measure => simp [intOf]
      · skip
        have p0 : wr.cell? ⟨g, 16, none⟩ = some (.int .i64 1) := S1.out.cells 16 _ rfl
        have p1 : wr.cell? ⟨g, 17, none⟩ = some (.int .i64 12) := S1.out.cells 17 _ rfl
        have p2 : wr.cell? ⟨g, 18, none⟩ = some (.slice (some ⟨m, 0, none⟩) 12 12) := S1.out.cells 18 _ rfl
        have p3 : wr.cell? ⟨g, 19, none⟩ = some (.bool false) := S1.out.cells 19 _ rfl
        have r0 : wr.cell? ⟨g', 16, none⟩ = some (.int .i64 1) := S2.out.cells 16 _ rfl
        have r1 : wr.cell? ⟨g', 17, none⟩ = some (.int .i64 12) := S2.out.cells 17 _ rfl
        have r2 : wr.cell? ⟨g', 18, none⟩ = some (.slice (some ⟨m', 0, none⟩) 12 12) := S2.out.cells 18 _ rfl
        have r3 : wr.cell? ⟨g', 19, none⟩ = some (.bool false) := S2.out.cells 19 _ rfl
        go_wp2_with fail
        go_region_held3 (fun w' => w'.cell? ⟨g, 16, none⟩ = some (.int .i64 1) ∧ w'.cell? ⟨g, 17, none⟩ = some (.int .i64 12) ∧ w'.cell? ⟨g, 18, none⟩ = some (.slice (some ⟨m, 0, none⟩) 12 12) ∧ w'.cell? ⟨g, 19, none⟩ = some (.bool false) ∧ w'.cell? ⟨g', 16, none⟩ = some (.int .i64 1) ∧ w'.cell? ⟨g', 17, none⟩ = some (.int .i64 12) ∧ w'.cell? ⟨g', 18, none⟩ = some (.slice (some ⟨m', 0, none⟩) 12 12) ∧ w'.cell? ⟨g', 19, none⟩ = some (.bool false)) (first | (exact ⟨(hb2.cell (p := ⟨g, 16, none⟩) g1).trans p0, (hb2.cell (p := ⟨g, 17, none⟩) g1).trans p1, (hb2.cell (p := ⟨g, 18, none⟩) g1).trans p2, (hb2.cell (p := ⟨g, 19, none⟩) g1).trans p3, (hb2.cell (p := ⟨g', 16, none⟩) g2).trans r0, (hb2.cell (p := ⟨g', 17, none⟩) g2).trans r1, (hb2.cell (p := ⟨g', 18, none⟩) g2).trans r2, (hb2.cell (p := ⟨g', 19, none⟩) g2).trans r3⟩) | (exact ⟨p0, p1, p2, p3, r0, r1, r2, r3⟩) | go_keep)
          (first
            | (go_at_call 21; (with_reducible refine (texts_m _ _ _ S1.out.months.drew S2.out.months.drew).mono ?_); rintro e xt ⟨rfl, hb2⟩
               have HB2 := Lib.hid hb2))
        go_wp2_with fail
        go_roundw
        case rel => exact ⟨5, by omega, by go_num, HBR.out.drew.trans (HB2.out.mono HBR.out.size)⟩
        case measure => simp [intOf]
      · skip
        have p0 : wr.cell? ⟨g, 20, none⟩ = some (.int .i64 0) := S1.out.cells 20 _ rfl
        have p1 : wr.cell? ⟨g, 21, none⟩ = some (.int .i64 6) := S1.out.cells 21 _ rfl
        have p2 : wr.cell? ⟨g, 22, none⟩ = some (.slice (some ⟨d, 0, none⟩) 7 7) := S1.out.cells 22 _ rfl
        have p3 : wr.cell? ⟨g, 23, none⟩ = some (.bool true) := S1.out.cells 23 _ rfl
        have r0 : wr.cell? ⟨g', 20, none⟩ = some (.int .i64 0) := S2.out.cells 20 _ rfl
        have r1 : wr.cell? ⟨g', 21, none⟩ = some (.int .i64 6) := S2.out.cells 21 _ rfl
        have r2 : wr.cell? ⟨g', 22, none⟩ = some (.slice (some ⟨d', 0, none⟩) 7 7) := S2.out.cells 22 _ rfl
        have r3 : wr.cell? ⟨g', 23, none⟩ = some (.bool true) := S2.out.cells 23 _ rfl
        go_wp2_with fail
        go_region_held3 (fun w' => w'.cell? ⟨g, 20, none⟩ = some (.int .i64 0) ∧ w'.cell? ⟨g, 21, none⟩ = some (.int .i64 6) ∧ w'.cell? ⟨g, 22, none⟩ = some (.slice (some ⟨d, 0, none⟩) 7 7) ∧ w'.cell? ⟨g, 23, none⟩ = some (.bool true) ∧ w'.cell? ⟨g', 20, none⟩ = some (.int .i64 0) ∧ w'.cell? ⟨g', 21, none⟩ = some (.int .i64 6) ∧ w'.cell? ⟨g', 22, none⟩ = some (.slice (some ⟨d', 0, none⟩) 7 7) ∧ w'.cell? ⟨g', 23, none⟩ = some (.bool true)) (first | (exact ⟨(hb2.cell (p := ⟨g, 20, none⟩) g1).trans p0, (hb2.cell (p := ⟨g, 21, none⟩) g1).trans p1, (hb2.cell (p := ⟨g, 22, none⟩) g1).trans p2, (hb2.cell (p := ⟨g, 23, none⟩) g1).trans p3, (hb2.cell (p := ⟨g', 20, none⟩) g2).trans r0, (hb2.cell (p := ⟨g', 21, none⟩) g2).trans r1, (hb2.cell (p := ⟨g', 22, none⟩) g2).trans r2, (hb2.cell (p := ⟨g', 23, none⟩) g2).trans r3⟩) | (exact ⟨p0, p1, p2, p3, r0, r1, r2, r3⟩) | go_keep)
          (first
            | (go_at_call 21; (with_reducible refine (texts_d _ _ _ S1.out.days.drew S2.out.days.drew).mono ?_); rintro e xt ⟨rfl, hb2⟩
               have HB2 := Lib.hid hb2))
        go_wp2_with fail
        go_roundw
        case rel => exact ⟨6, by omega, by go_num, HBR.out.drew.trans (HB2.out.mono HBR.out.size)⟩
        case measure => simp [intOf]
      · go_wp2_with (first
          | (go_at_call 14; (with_reducible refine (works_true _ TR.out).mono ?_); rintro e x8 ⟨rfl, hb2⟩))
        go_ret
        exact ⟨rfl, ((Below.refl _ _).alloc (Nat.le_refl _) _).trans ((B7.out.trans (HBR.out.mono (by have := B7.out.size; simp only [World.size_alloc] at this; exact this)) |>.trans (hb2.mono (by have h8 := B7.out.size; have h9 := HBR.out.size; simp only [World.size_alloc] at h8; omega))).mono (Nat.le_succ _))⟩

set_option maxRecDepth 100000 in
theorem contract (H : Type) (enc : TypeId × Value → H) (W : World) (base : Nat) (args : Array Value) (ds gs : List (DataW H)) (before : List MemPlace)
    (hval : ∀ (j : Nat) t v, Tryz.f5.params[j]? = some t → args[j]? = some v → Value.okWide Tryz.prog W .any base t v)
    (hW : DataW.Whole enc Tryz.prog Tryz.f5.params.toList Rows.fieldNamesSpec.vars false W args.toList ds gs before) (hL : laidMetH Tryz.prog Rows.fieldNamesRow.laid W) (hS : W.ShapedOpen Tryz.prog) :
    Calls Tryz.prog 5 args W fun e W' => ∃ v, e = .returned v ∧ Rows.fieldNamesSpec.post enc Tryz.prog Tryz.f5 false true false false W args v W' := by
  have hT : Tabs W := FRow.tabs_of hL hS
  have hW' := hW
  obtain ⟨p, q, hA0, hV, rfl, hfz, hnd⟩ := hW
  have hA : DataW.TrodAll enc Tryz.prog W 0 (fun _ => true) true Tryz.f5.params.toList args.toList ds p := hA0
  rw [Tryz.params5] at hA hval
  obtain ⟨v0, vs0, d0, ds0, p0, q0, hargs, rfl, rfl, h0, r0⟩ := trodAll_cons hA
  obtain ⟨v1, vs1, d1, ds1, p1, q1, rfl, rfl, rfl, h1, r1⟩ := trodAll_cons r0
  obtain ⟨rfl, rfl, rfl⟩ := trodAll_nil r1
  obtain rfl : args = #[v0, v1] := by cases args; simp_all
  obtain ⟨rfl, rfl⟩ := trodVars_none hV
  have h0k := h0
  obtain ⟨lo, hi, A, l, c, week, rfl, hlo1, hlo2, hhi1, hhi2, hcc, hlm, hN, hsz, hAc⟩ := FKind.open_kind (hval 0 24 v0 rfl rfl) h0
  obtain ⟨a1, rfl, rfl, rfl, w1⟩ := open_int Tryz.underlying3 (hval 1 3 v1 rfl rfl) h1
  clear hA0
  simp only [List.append_nil] at hW'
  refine (walk lo hi A l c week a1 w1 W hT hlo1 hlo2 hhi1 hhi2 hcc hlm hN hsz hAc).mono fun e W' ⟨he, hb⟩ => ?_
  subst he
  exact ⟨_, rfl, _, _, _, [], _, [], hW', trodAll_cons_mk (shut_bool Tryz.underlying4 _) trodAll_mk0, (trodAll_cons_mk (Below.trod (by kernel_rfl) (by kernel_rfl) (of_decide_eq_true (by kernel_rfl)) h0k hb (fun x hx => hW'.lt x (by simpa using hx))) (trodAll_cons_mk (shut_int Tryz.underlying3 w1) trodAll_mk0)), rfl, hb.frame _, fun h => by cases h⟩

set_option maxRecDepth 100000 in
theorem lifted (os : Os) (started : os.Started) (H : Type) (enc : TypeId × Value → H) (F : Stop.Interp) :
    ReturnsInHanded {} Tryz.checked os 5 .any ((OpenSpec.ofChange Rows.fieldNamesSpec).preRow enc Tryz.prog Tryz.f5 Rows.fieldNamesRow.domain false Rows.fieldNamesRow.laid) (((OpenSpec.ofChange Rows.fieldNamesSpec).at F).post enc Tryz.prog Tryz.f5 false true false false) := by
  refine returnsInHanded_of_row (C := Tryz.checked) (s := OpenSpec.ofChange Rows.fieldNamesSpec) FRow.own started (by kernel_rfl) Tryz.func5
    (ChangeSpec.witness_shaped (enc := enc) (C := Tryz.checked) (os := os) (X := fun w _ => laidMetH Tryz.prog FRow.laidL w) false (World.laidAll Tryz.prog os FRow.laidL) #[.agg #[.int .i64 0, .int .i64 0, .slice none 0 0, .bool false], .int .i64 0] 8 (World.laidAll_os _ _ _)
      (FRow.wit_shaped os _) (by kernel_rfl) (by kernel_rfl) (by kernel_rfl) (FRow.wit_laid os _)) ?_
  intro W base args ds gs before hval hW _ _ _ hL hS _
  exact contract H enc W base args ds gs before hval hW hL hS

theorem said : Rows.FieldNamesSaid :=
  OpenClaim.holds_of_cond 5 Tryz.f5 rfl rfl rfl rfl rfl rfl rfl ⟨rfl, rfl, rfl, rfl, rfl⟩ rfl rfl rfl rfl rfl (by kernel_rfl) Tryz.func5 (by kernel_rfl)
    (of_decide_eq_true (by kernel_rfl)) (by unfold Func.isWrapper; first | (rw [if_pos (by decide +kernel)]; kernel_rfl) | (rw [if_neg (by decide +kernel)]; exact ⟨rfl, rfl⟩))
    (fun os started H enc _ F => by rw [OpenClaim.pre_eq_preRow]; exact lifted os started H enc F)

theorem plain (f : FuncId) (fn : Func) (hf : Tryz.pinned.checked.prog.funcNamed "wakeman/wakemanlaw06.FieldNames" = some f) (hfn : Tryz.pinned.checked.prog.funcs[f]? = some fn) :
    true = Tryz.pinned.checked.prog.looks [] ∧ ∀ (j : Nat) t, fn.params[j]? = some t → Tryz.pinned.checked.prog.wantsStandIn t = false := by
  obtain rfl : f = 5 := Option.some.inj ((show Tryz.prog.funcNamed "wakeman/wakemanlaw06.FieldNames" = some 5 by kernel_rfl).symm.trans hf) |>.symm
  obtain rfl : fn = Tryz.f5 := (Option.some.inj (Tryz.func5.symm.trans hfn)).symm
  refine ⟨by kernel_rfl, fun j t ht => ?_⟩
  rw [Tryz.params5] at ht
  have hm : t ∈ [24, 3] := by simpa using Array.mem_of_getElem? ht
  have hall : ([24, 3].all fun u => !Tryz.prog.wantsStandIn u) = true := by kernel_rfl
  exact (show Tryz.prog.wantsStandIn t = false by simpa using List.all_eq_true.1 hall t hm)

theorem card : Rows.FieldNamesCardSaid :=
  Claim7.holds_tied_plain_at .later [] _ _ _ _ said (fun _ h => by cases h) (by kernel_rfl) (fun _ h => by cases h) fieldNames_row_tie rfl ⟨rfl, rfl⟩ (by kernel_rfl) rfl plain (by kernel_rfl)
#print axioms card
end Go.Proofs.YtfhcnndleaoobaaGreatDoor.fieldNames
