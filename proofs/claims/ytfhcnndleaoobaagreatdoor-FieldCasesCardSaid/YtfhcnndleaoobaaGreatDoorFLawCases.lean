/-
  FieldCases: the walk, the row, the card.
-/
import Derived.Test.YtfhcnndleaoobaaGreatDoorFRow
import Derived.Test.YtfhcnndleaoobaaGreatDoorFSixPlain
import Derived.Test.YtfhcnndleaoobaaGreatDoorFLow
import Derived.Test.YtfhcnndleaoobaaGreatDoorFNamed
import Derived.Test.YtfhcnndleaoobaaGreatDoorFDig
set_option linter.unusedVariables false
set_option linter.unusedSimpArgs false
namespace Go.Proofs.YtfhcnndleaoobaaGreatDoor.fieldCases
open Go.ChangeShapes Go.WideShapes Go.ChangeAt Go.RowKit

theorem six_at4 : ∀ w, Tabs w → Calls Tryz.prog 32 #[.int .u8 4] w fun e w' => ∃ A c,
    e = .returned (.tuple #[.agg #[.int .i64 1, .int .i64 12, .slice A 12 c, .bool false], .int .u64 (Fs.full (kind 1 12 monthsB false)), .bool true]) ∧ Below w.heap.size w w' ∧ KindAt w' 4 1 12 A c monthsB false := by
  obtain ⟨lo, hi, l, week, hk, h⟩ := six_ok 4 (by decide)
  rcases hk with ⟨hh, h1, h2, h3, h4⟩ | ⟨hh, h1, h2, h3, h4⟩ | ⟨hh, h1, h2, h3, h4⟩ | ⟨hh, h1, h2, h3, h4⟩ | ⟨hh, h1, h2, h3, h4⟩ | ⟨hh, h1, h2, h3, h4⟩
  all_goals first | (exact absurd hh (by decide)) | (subst h1 h2 h3 h4; exact h)
set_option maxRecDepth 100000 in
/-- The lower one p, the upper one q. -/
theorem texts_at4 (p q : Nat) (hp : 1 ≤ p) (hpq : p ≤ q) (hq : q ≤ 12) (f : Nat → Bool) : ∃ (T U : ByteArray) (S : Nat), T.size = 3 ∧ U.size = 3 ∧ S < 18446744073709551616 ∧
    (∀ A c W, KindAt W 4 1 12 A c monthsB false → Calls Tryz.prog 28 #[.agg #[.int .i64 1, .int .i64 12, .slice A 12 c, .bool false], .int .i64 p] W fun e w' => e = .returned (.tuple #[.string T, .int .i64 0]) ∧ Below W.heap.size W w') ∧
    (∀ A c W, KindAt W 4 1 12 A c monthsB false → Calls Tryz.prog 28 #[.agg #[.int .i64 1, .int .i64 12, .slice A 12 c, .bool false], .int .i64 q] W fun e w' => e = .returned (.tuple #[.string U, .int .i64 0]) ∧ Below W.heap.size W w') ∧
    (∀ A c W, KindAt W 4 1 12 A c monthsB false → Tabs W → Calls Tryz.prog 15 #[.agg #[.int .i64 1, .int .i64 12, .slice A 12 c, .bool false], .string ⟨(Fs.lowB f (T ++ (⟨#[45]⟩ : ByteArray) ++ U).data.toList).toArray⟩] W fun e w' => e = .returned (.tuple #[.int .u64 S, .bool false, .int .i64 0, .int .i64 0]) ∧ Below W.heap.size W w') ∧
    (∀ A c W, KindAt W 4 1 12 A c monthsB false → Tabs W → Calls Tryz.prog 15 #[.agg #[.int .i64 1, .int .i64 12, .slice A 12 c, .bool false], .string ((⟨(Fs.dig p).toArray⟩ : ByteArray) ++ (⟨#[45]⟩ : ByteArray) ++ (⟨(Fs.dig q).toArray⟩ : ByteArray))] W fun e w' => e = .returned (.tuple #[.int .u64 S, .bool false, .int .i64 0, .int .i64 0]) ∧ Below W.heap.size W w') ∧
    (∀ A c W, KindAt W 4 1 12 A c monthsB false → Tabs W → Calls Tryz.prog 15 #[.agg #[.int .i64 1, .int .i64 12, .slice A 12 c, .bool false], .string T] W fun e w' => e = .returned (.tuple #[.int .u64 (IntKind.u64.wrap ((2 : Int) ^ p)), .bool false, .int .i64 0, .int .i64 0]) ∧ Below W.heap.size W w') := by
  obtain ⟨T, t1, t2, t3, t4⟩ := months_named (p - 1) (by omega)
  obtain ⟨U, u1, u2, u3, u4⟩ := months_named (q - 1) (by omega)
  rw [show 1 + (p - 1) = p from by omega] at t1
  rw [show 1 + (q - 1) = q from by omega] at u1
  have f1 : Fs.checkB (kind 1 12 monthsB false) = true := by decide +kernel
  obtain ⟨S, s1, s2, s3⟩ := Fs.low_plain (k := (kind 1 12 monthsB false)) (lo := 1) (hi := 12) f1 rfl rfl hp hpq hq t3 u3 (by omega) (by omega) t4 u4 f
  have dl : ∀ n, n < 100 → (Fs.dig n).length ≤ 2 := fun n h => by rcases Fs.dig_len n h with h | h <;> omega
  have dp := dl p (by omega)
  have dq := dl q (by omega)
  have ts : (⟨T.toArray⟩ : ByteArray).size = 3 := by show T.toArray.size = 3; rw [List.size_toArray]; exact t2
  have us : (⟨U.toArray⟩ : ByteArray).size = 3 := by show U.toArray.size = 3; rw [List.size_toArray]; exact u2
  have ps : (⟨(Fs.dig p).toArray⟩ : ByteArray).size ≤ 2 := by show (Fs.dig p).toArray.size ≤ 2; rw [List.size_toArray]; exact dp
  have qs : (⟨(Fs.dig q).toArray⟩ : ByteArray).size ≤ 2 := by show (Fs.dig q).toArray.size ≤ 2; rw [List.size_toArray]; exact dq
  have os : (⟨#[45]⟩ : ByteArray).size = 1 := rfl
  refine ⟨⟨T.toArray⟩, ⟨U.toArray⟩, S, ts, us, Fs.set_lt f1 _ s2, fun A c W h => ?_, fun A c W h => ?_, fun A c W h hT => ?_, fun A c W h hT => ?_, fun A c W h hT => ?_⟩
  · have := kd_Name h p; rw [t1] at this; exact this
  · have := kd_Name h q; rw [u1] at this; exact this
  · have := kd_Parse h hT ⟨(Fs.lowB f ((⟨T.toArray⟩ : ByteArray) ++ (⟨#[45]⟩ : ByteArray) ++ (⟨U.toArray⟩ : ByteArray)).data.toList).toArray⟩ (by
      show (Fs.lowB f _).toArray.size ≤ 100000
      rw [List.size_toArray, Fs.low_len]
      show ((⟨T.toArray⟩ : ByteArray) ++ (⟨#[45]⟩ : ByteArray) ++ (⟨U.toArray⟩ : ByteArray)).size ≤ 100000
      simp only [ByteArray.size_append]; omega)
    have e : ((⟨T.toArray⟩ : ByteArray) ++ (⟨#[45]⟩ : ByteArray) ++ (⟨U.toArray⟩ : ByteArray)).data.toList = T ++ 45 :: U := by simp
    rw [e] at this ⊢
    rw [show (⟨(Fs.lowB f (T ++ 45 :: U)).toArray⟩ : ByteArray).data.toList = Fs.lowB f (T ++ 45 :: U) from rfl, s1] at this
    exact this
  · have := kd_Parse h hT ((⟨(Fs.dig p).toArray⟩ : ByteArray) ++ (⟨#[45]⟩ : ByteArray) ++ (⟨(Fs.dig q).toArray⟩ : ByteArray)) (by simp only [ByteArray.size_append]; omega)
    rw [show ((⟨(Fs.dig p).toArray⟩ : ByteArray) ++ (⟨#[45]⟩ : ByteArray) ++ (⟨(Fs.dig q).toArray⟩ : ByteArray)).data.toList = Fs.dig p ++ 45 :: Fs.dig q from by simp, s2] at this
    exact this
  · have := kd_Parse h hT ⟨T.toArray⟩ (by omega)
    rw [show (⟨T.toArray⟩ : ByteArray).data.toList = T from rfl, s3] at this
    have ez : IntKind.u64.wrap ((2 : Int) ^ p) = ((2 ^ p : Nat) : Int) := by
      have hZ : (2 : Nat) ^ p < 18446744073709551616 := pow_lt (by omega)
      rw [IntKind.wrap_u64]
      have : ((2 : Int) ^ p) = ((2 ^ p : Nat) : Int) := by simp
      rw [this]; generalize (2 : Nat) ^ p = z at hZ ⊢; omega
    rw [ez]
    exact this
theorem six_at5 : ∀ w, Tabs w → Calls Tryz.prog 32 #[.int .u8 5] w fun e w' => ∃ A c,
    e = .returned (.tuple #[.agg #[.int .i64 0, .int .i64 6, .slice A 7 c, .bool true], .int .u64 (Fs.full (kind 0 6 daysB true)), .bool true]) ∧ Below w.heap.size w w' ∧ KindAt w' 5 0 6 A c daysB true := by
  obtain ⟨lo, hi, l, week, hk, h⟩ := six_ok 5 (by decide)
  rcases hk with ⟨hh, h1, h2, h3, h4⟩ | ⟨hh, h1, h2, h3, h4⟩ | ⟨hh, h1, h2, h3, h4⟩ | ⟨hh, h1, h2, h3, h4⟩ | ⟨hh, h1, h2, h3, h4⟩ | ⟨hh, h1, h2, h3, h4⟩
  all_goals first | (exact absurd hh (by decide)) | (subst h1 h2 h3 h4; exact h)
set_option maxRecDepth 100000 in
/-- The lower one p, the upper one q. -/
theorem texts_at5 (p q : Nat) (hp : 0 ≤ p) (hpq : p ≤ q) (hq : q ≤ 6) (f : Nat → Bool) : ∃ (T U : ByteArray) (S : Nat), T.size = 3 ∧ U.size = 3 ∧ S < 18446744073709551616 ∧
    (∀ A c W, KindAt W 5 0 6 A c daysB true → Calls Tryz.prog 28 #[.agg #[.int .i64 0, .int .i64 6, .slice A 7 c, .bool true], .int .i64 p] W fun e w' => e = .returned (.tuple #[.string T, .int .i64 0]) ∧ Below W.heap.size W w') ∧
    (∀ A c W, KindAt W 5 0 6 A c daysB true → Calls Tryz.prog 28 #[.agg #[.int .i64 0, .int .i64 6, .slice A 7 c, .bool true], .int .i64 q] W fun e w' => e = .returned (.tuple #[.string U, .int .i64 0]) ∧ Below W.heap.size W w') ∧
    (∀ A c W, KindAt W 5 0 6 A c daysB true → Tabs W → Calls Tryz.prog 15 #[.agg #[.int .i64 0, .int .i64 6, .slice A 7 c, .bool true], .string ⟨(Fs.lowB f (T ++ (⟨#[45]⟩ : ByteArray) ++ U).data.toList).toArray⟩] W fun e w' => e = .returned (.tuple #[.int .u64 S, .bool false, .int .i64 0, .int .i64 0]) ∧ Below W.heap.size W w') ∧
    (∀ A c W, KindAt W 5 0 6 A c daysB true → Tabs W → Calls Tryz.prog 15 #[.agg #[.int .i64 0, .int .i64 6, .slice A 7 c, .bool true], .string ((⟨(Fs.dig p).toArray⟩ : ByteArray) ++ (⟨#[45]⟩ : ByteArray) ++ (⟨(Fs.dig q).toArray⟩ : ByteArray))] W fun e w' => e = .returned (.tuple #[.int .u64 S, .bool false, .int .i64 0, .int .i64 0]) ∧ Below W.heap.size W w') ∧
    (∀ A c W, KindAt W 5 0 6 A c daysB true → Tabs W → Calls Tryz.prog 15 #[.agg #[.int .i64 0, .int .i64 6, .slice A 7 c, .bool true], .string T] W fun e w' => e = .returned (.tuple #[.int .u64 (IntKind.u64.wrap ((2 : Int) ^ p)), .bool false, .int .i64 0, .int .i64 0]) ∧ Below W.heap.size W w') := by
  obtain ⟨T, t1, t2, t3, t4⟩ := days_named (p - 0) (by omega)
  obtain ⟨U, u1, u2, u3, u4⟩ := days_named (q - 0) (by omega)
  rw [show 0 + (p - 0) = p from by omega] at t1
  rw [show 0 + (q - 0) = q from by omega] at u1
  have f1 : Fs.checkB (kind 0 6 daysB true) = true := by decide +kernel
  obtain ⟨S, s1, s2, s3⟩ := Fs.low_plain (k := (kind 0 6 daysB true)) (lo := 0) (hi := 6) f1 rfl rfl hp hpq hq t3 u3 (by omega) (by omega) t4 u4 f
  have dl : ∀ n, n < 100 → (Fs.dig n).length ≤ 2 := fun n h => by rcases Fs.dig_len n h with h | h <;> omega
  have dp := dl p (by omega)
  have dq := dl q (by omega)
  have ts : (⟨T.toArray⟩ : ByteArray).size = 3 := by show T.toArray.size = 3; rw [List.size_toArray]; exact t2
  have us : (⟨U.toArray⟩ : ByteArray).size = 3 := by show U.toArray.size = 3; rw [List.size_toArray]; exact u2
  have ps : (⟨(Fs.dig p).toArray⟩ : ByteArray).size ≤ 2 := by show (Fs.dig p).toArray.size ≤ 2; rw [List.size_toArray]; exact dp
  have qs : (⟨(Fs.dig q).toArray⟩ : ByteArray).size ≤ 2 := by show (Fs.dig q).toArray.size ≤ 2; rw [List.size_toArray]; exact dq
  have os : (⟨#[45]⟩ : ByteArray).size = 1 := rfl
  refine ⟨⟨T.toArray⟩, ⟨U.toArray⟩, S, ts, us, Fs.set_lt f1 _ s2, fun A c W h => ?_, fun A c W h => ?_, fun A c W h hT => ?_, fun A c W h hT => ?_, fun A c W h hT => ?_⟩
  · have := kd_Name h p; rw [t1] at this; exact this
  · have := kd_Name h q; rw [u1] at this; exact this
  · have := kd_Parse h hT ⟨(Fs.lowB f ((⟨T.toArray⟩ : ByteArray) ++ (⟨#[45]⟩ : ByteArray) ++ (⟨U.toArray⟩ : ByteArray)).data.toList).toArray⟩ (by
      show (Fs.lowB f _).toArray.size ≤ 100000
      rw [List.size_toArray, Fs.low_len]
      show ((⟨T.toArray⟩ : ByteArray) ++ (⟨#[45]⟩ : ByteArray) ++ (⟨U.toArray⟩ : ByteArray)).size ≤ 100000
      simp only [ByteArray.size_append]; omega)
    have e : ((⟨T.toArray⟩ : ByteArray) ++ (⟨#[45]⟩ : ByteArray) ++ (⟨U.toArray⟩ : ByteArray)).data.toList = T ++ 45 :: U := by simp
    rw [e] at this ⊢
    rw [show (⟨(Fs.lowB f (T ++ 45 :: U)).toArray⟩ : ByteArray).data.toList = Fs.lowB f (T ++ 45 :: U) from rfl, s1] at this
    exact this
  · have := kd_Parse h hT ((⟨(Fs.dig p).toArray⟩ : ByteArray) ++ (⟨#[45]⟩ : ByteArray) ++ (⟨(Fs.dig q).toArray⟩ : ByteArray)) (by simp only [ByteArray.size_append]; omega)
    rw [show ((⟨(Fs.dig p).toArray⟩ : ByteArray) ++ (⟨#[45]⟩ : ByteArray) ++ (⟨(Fs.dig q).toArray⟩ : ByteArray)).data.toList = Fs.dig p ++ 45 :: Fs.dig q from by simp, s2] at this
    exact this
  · have := kd_Parse h hT ⟨T.toArray⟩ (by omega)
    rw [show (⟨T.toArray⟩ : ByteArray).data.toList = T from rfl, s3] at this
    have ez : IntKind.u64.wrap ((2 : Int) ^ p) = ((2 ^ p : Nat) : Int) := by
      have hZ : (2 : Nat) ^ p < 18446744073709551616 := pow_lt (by omega)
      rw [IntKind.wrap_u64]
      have : ((2 : Int) ^ p) = ((2 ^ p : Nat) : Int) := by simp
      rw [this]; generalize (2 : Nat) ^ p = z at hZ ⊢; omega
    rw [ez]
    exact this
set_option maxRecDepth 100000 in
set_option maxHeartbeats 4000000 in
theorem walk4 (a b : Nat) (ha : a < 256) (hb : b < 256) (sm : Int) (w3 : (Lit.int .u16 sm).wf = true) (w : World) (hT : Tabs w) (hab : a % 12 ≤ b % 12) :
    Calls Tryz.prog 11 #[.bool false, .int .u8 a, .int .u8 b, .int .u16 sm] w fun e w' => e = .returned (.bool true) ∧ Below w.heap.size w w' := by
  obtain ⟨f, hf⟩ : ∃ f : Nat → Bool, ∀ i, f i = (bits .and .u16 (sm / 2 ^ (i % 16)) 1 == 1) := ⟨_, fun _ => rfl⟩
  obtain ⟨T, U, S, hT3, hU3, hS, g1, g2, g3, g4, g5⟩ := texts_at4 (1 + a % 12) (1 + b % 12) (by omega) (by omega) (by omega) f
  have eP : ((1 + a % 12 : Nat) : Int) = 1 + (a : Int) % 12 := by omega
  have eQ : ((1 + b % 12 : Nat) : Int) = 1 + (b : Int) % 12 := by omega
  have D1 : Hid (∀ W, Calls Tryz.prog 33 #[.int .i64 (1 + a % 12 : Nat)] W fun e w' => e = .returned (.string ⟨(Fs.dig (1 + a % 12)).toArray⟩) ∧ Below W.heap.size W w') := Lib.hid fun W => law_digits _ W (by omega)
  have D2 : Hid (∀ W, Calls Tryz.prog 33 #[.int .i64 (1 + b % 12 : Nat)] W fun e w' => e = .returned (.string ⟨(Fs.dig (1 + b % 12)).toArray⟩) ∧ Below W.heap.size W w') := Lib.hid fun W => law_digits _ W (by omega)
  rw [eP] at g1
  rw [eQ] at g2
  have G1 := Lib.hid g1; have G2 := Lib.hid g2; have G3 := Lib.hid g3; have G4 := Lib.hid g4; have G5 := Lib.hid g5
  have hmin : min ((a : Int) % 12) ((b : Int) % 12) = (a : Int) % 12 := by omega
  have hmax : max ((a : Int) % 12) ((b : Int) % 12) = (b : Int) % 12 := by omega
  have H6 := Lib.hid six_at4
  have HT := Lib.hid hT
  have HF := Lib.hid hf
  clear g1 g2 g3 g4 g5 hT hf
  generalize Fs.full (kind 1 12 monthsB false) = fu at *
  go_enter Tryz.func11, Tryz.ntmps11
  go_wp2_with (first
    | (go_at_call 32; (with_reducible refine (H6.out _ HT.out).mono ?_); rintro e x1 ⟨A, c, rfl, hb1, hk1⟩
       have B1 := Lib.hid hb1; have K1 := Lib.hid hk1; have T1 := Lib.hid (HT.out.grow hb1); clear hb1 hk1))
  obtain ⟨x2, hx2⟩ : ∃ x, x1.alloc (.cells #[.int .i64 1, .int .i64 12, .slice A 12 c, .bool false] 30) = x := ⟨_, rfl⟩
  rw [hx2]
  have B2 : Hid (Below w.heap.size w x2) := Lib.hid (hx2 ▸ B1.out.alloc B1.out.size _)
  have K2 : Hid (KindAt x2 4 1 12 A c monthsB false) := Lib.hid (hx2 ▸ K1.out.alloc _)
  have T2 : Hid (Tabs x2) := Lib.hid (hx2 ▸ T1.out.alloc _)
  have c2 : x2.cell? ⟨x1.heap.size, 0, none⟩ = some (.int .i64 1) ∧ x2.cell? ⟨x1.heap.size, 1, none⟩ = some (.int .i64 12) ∧ x2.cell? ⟨x1.heap.size, 2, none⟩ = some (.slice A 12 c) ∧ x2.cell? ⟨x1.heap.size, 3, none⟩ = some (.bool false) := by
    rw [← hx2]
    exact ⟨by rw [World.cell?_alloc_at _ _ _ _ rfl]; rfl, by rw [World.cell?_alloc_at _ _ _ _ rfl]; rfl, by rw [World.cell?_alloc_at _ _ _ _ rfl]; rfl, by rw [World.cell?_alloc_at _ _ _ _ rfl]; rfl⟩
  have s2 : x1.heap.size < x2.heap.size := by rw [← hx2]; simp
  clear hx2 B1 K1 T1
  obtain ⟨ca2, cb2, cc2, cd2⟩ := c2
  go_quiet (fail)
  obtain ⟨x3, hx3⟩ : ∃ x, x2.drewN nq = x := ⟨_, rfl⟩
  rw [hx3]
  have B3 : Hid (Below w.heap.size w x3) := Lib.hid (hx3 ▸ below_drewN B2.out nq)
  have K3 : Hid (KindAt x3 4 1 12 A c monthsB false) := Lib.hid (hx3 ▸ K2.out.grow (below_drewN (Below.refl _ x2) nq))
  have T3 : Hid (Tabs x3) := Lib.hid (hx3 ▸ T2.out.drewN nq)
  have ca3 : x3.cell? ⟨x1.heap.size, 0, none⟩ = some (.int .i64 1) := by rw [← hx3]; exact ca2
  have cb3 : x3.cell? ⟨x1.heap.size, 1, none⟩ = some (.int .i64 12) := by rw [← hx3]; exact cb2
  have cc3 : x3.cell? ⟨x1.heap.size, 2, none⟩ = some (.slice A 12 c) := by rw [← hx3]; exact cc2
  have cd3 : x3.cell? ⟨x1.heap.size, 3, none⟩ = some (.bool false) := by rw [← hx3]; exact cd2
  have s3 : x1.heap.size < x3.heap.size := by rw [← hx3]; exact s2
  clear hx3 B2 K2 T2 ca2 cb2 cc2 cd2 s2
  go_wp2_with fail
  go_quiet (fail)
  obtain ⟨x4, hx4⟩ : ∃ x, x3.drewN nq = x := ⟨_, rfl⟩
  rw [hx4]
  have B4 : Hid (Below w.heap.size w x4) := Lib.hid (hx4 ▸ below_drewN B3.out nq)
  have K4 : Hid (KindAt x4 4 1 12 A c monthsB false) := Lib.hid (hx4 ▸ K3.out.grow (below_drewN (Below.refl _ x3) nq))
  have T4 : Hid (Tabs x4) := Lib.hid (hx4 ▸ T3.out.drewN nq)
  have ca4 : x4.cell? ⟨x1.heap.size, 0, none⟩ = some (.int .i64 1) := by rw [← hx4]; exact ca3
  have cb4 : x4.cell? ⟨x1.heap.size, 1, none⟩ = some (.int .i64 12) := by rw [← hx4]; exact cb3
  have cc4 : x4.cell? ⟨x1.heap.size, 2, none⟩ = some (.slice A 12 c) := by rw [← hx4]; exact cc3
  have cd4 : x4.cell? ⟨x1.heap.size, 3, none⟩ = some (.bool false) := by rw [← hx4]; exact cd3
  have s4 : x1.heap.size < x4.heap.size := by rw [← hx4]; exact s3
  clear hx4 B3 K3 T3 ca3 cb3 cc3 cd3 s3
  have hsz : (T ++ (⟨#[45]⟩ : ByteArray) ++ U).size = 7 := by simp only [ByteArray.size_append]; show _ + 1 + _ = 7; omega
  go_wp2_with (first
    | (go_at_call 28; (with_reducible refine (G1.out _ _ _ K4.out).mono ?_); rintro e x5 ⟨rfl, hb2⟩
       have B5 := Lib.hid (B4.out.trans (hb2.mono B4.out.size)); have K5 := Lib.hid (K4.out.grow hb2); have T5 := Lib.hid (T4.out.grow hb2)
       have s5 : x1.heap.size < x5.heap.size := by have h9 := hb2.size; omega
       have ca5 := (hb2.cell (p := ⟨x1.heap.size, 0, none⟩) s4).trans ca4; have cb5 := (hb2.cell (p := ⟨x1.heap.size, 1, none⟩) s4).trans cb4; have cc5 := (hb2.cell (p := ⟨x1.heap.size, 2, none⟩) s4).trans cc4; have cd5 := (hb2.cell (p := ⟨x1.heap.size, 3, none⟩) s4).trans cd4
       clear hb2)
    | (go_at_call 28; (with_reducible refine (G2.out _ _ _ K5.out).mono ?_); rintro e x6 ⟨rfl, hb2⟩
       have B6 := Lib.hid (B5.out.trans (hb2.mono B5.out.size)); have K6 := Lib.hid (K5.out.grow hb2); have T6 := Lib.hid (T5.out.grow hb2)
       have s6 : x1.heap.size < x6.heap.size := by have h9 := hb2.size; omega
       have ca6 := (hb2.cell (p := ⟨x1.heap.size, 0, none⟩) s5).trans ca5; have cb6 := (hb2.cell (p := ⟨x1.heap.size, 1, none⟩) s5).trans cb5; have cc6 := (hb2.cell (p := ⟨x1.heap.size, 2, none⟩) s5).trans cc5; have cd6 := (hb2.cell (p := ⟨x1.heap.size, 3, none⟩) s5).trans cd5
       clear hb2
       obtain ⟨cap, C, hcv, hBA⟩ := bytes_made x6 (T ++ (⟨#[45]⟩ : ByteArray) ++ U) 7 hsz))
  obtain ⟨x7, hx7⟩ : ∃ x, (x6.alloc (.cells C 5 (C.size, C.size + 1))).drew = x := ⟨_, rfl⟩
  rw [hx7]
  have hb7 : Below x6.heap.size x6 x7 := hx7 ▸ ((Below.refl _ _).alloc (Nat.le_refl _) _).drew
  have hB7 : BytesAt x7 x6.heap.size (T ++ (⟨#[45]⟩ : ByteArray) ++ U).data.toList := hx7 ▸ hBA
  have hlen : (T ++ (⟨#[45]⟩ : ByteArray) ++ U).data.toList.length = 7 := hsz
  clear hx7 hBA hcv hsz G1 G2 HT H6 C hT3 hU3 B4 K4 T4 s4 ca4 cb4 cc4 cd4 B5 K5 T5 s5 ca5 cb5 cc5 cd5
  generalize (T ++ (⟨#[45]⟩ : ByteArray) ++ U).data.toList = l7 at *
  rw [← eP, ← eQ]
  have hp1 : 1 + a % 12 ≤ 12 := by omega
  have hq1 : 1 + b % 12 ≤ 12 := by omega
  clear eP eQ hmin hmax hab
  generalize 1 + a % 12 = p at *
  generalize 1 + b % 12 = q at *
  have lp : (⟨(Fs.dig p).toArray⟩ : ByteArray).size ≤ 2 := by show (Fs.dig p).toArray.size ≤ 2; rw [List.size_toArray]; rcases Fs.dig_len p (by omega) with h | h <;> omega
  have lq : (⟨(Fs.dig q).toArray⟩ : ByteArray).size ≤ 2 := by show (Fs.dig q).toArray.size ≤ 2; rw [List.size_toArray]; rcases Fs.dig_len q (by omega) with h | h <;> omega
  generalize (⟨(Fs.dig p).toArray⟩ : ByteArray) = Dp at *
  generalize (⟨(Fs.dig q).toArray⟩ : ByteArray) = Dq at *
  have a1 := str_add Dp (⟨#[45]⟩ : ByteArray) (by show _ + 1 ≤ _; omega)
  have a2 := str_add (Dp ++ (⟨#[45]⟩ : ByteArray)) Dq (by rw [ByteArray.size_append]; show _ + 1 + _ ≤ _; omega)
  go_loopw [22] (fun v wr => ∃ i : Nat, i ≤ 7 ∧ v = .int .i64 i ∧ Below x6.heap.size x6 wr ∧ BytesAt wr x6.heap.size (Fs.lowB (fun j => decide (j < i) && f j) l7)) (fun v _ => 7 - (intOf v).toNat)
  case atStart => exact ⟨0, by omega, rfl, hb7, by rw [Fs.low_zero]; exact hB7⟩
  case round =>
    obtain ⟨i, hi, rfl, hbw, hBw⟩ := hrel
    by_cases hlt : i < 7
    · obtain ⟨b', hb'⟩ : ∃ b', l7[i]? = some b' := ⟨l7[i], List.getElem?_eq_getElem (by omega)⟩
      obtain ⟨pc, pf⟩ := hBw.at_ hb'
      have HBW := Lib.hid hBw; have Hbw := Lib.hid hbw; have HB' := Lib.hid hb'
      have hff := (HF.out i).symm
      clear hBw hbw hb'
      cases h1 : f i with
      | false =>
        rw [h1] at hff
        go_wp2_with fail
        go_roundw
        case rel => exact ⟨i + 1, by omega, by go_num, Hbw.out, HBW.out.no HB'.out (by rw [h1]; rfl)⟩
        case measure => simp [intOf]; omega
      | true =>
        rw [h1] at hff
        have H1 := Lib.hid h1; clear h1
        by_cases h65 : 65 ≤ b'.toNat
        · by_cases h90 : b'.toNat ≤ 90
          · go_wp2_with fail
            go_roundw
            case rel => exact ⟨i + 1, by omega, by go_num, Hbw.out.setCell (Nat.le_refl _) _, HBW.out.yes HB'.out H1.out _ (by rw [lo1_nat h65 h90])⟩
            case measure => simp [intOf]; omega
          · go_wp2_with fail
            go_roundw
            case rel => exact ⟨i + 1, by omega, by go_num, Hbw.out, HBW.out.no HB'.out (by rw [H1.out, if_pos rfl]; exact lo1_same (by omega))⟩
            case measure => simp [intOf]; omega
        · go_wp2_with fail
          go_roundw
          case rel => exact ⟨i + 1, by omega, by go_num, Hbw.out, HBW.out.no HB'.out (by rw [H1.out, if_pos rfl]; exact lo1_same (by omega))⟩
          case measure => simp [intOf]; omega
    · obtain rfl : i = 7 := by omega
      have hcv : (convert 65 9 (.slice (some ⟨x6.heap.size, 0, none⟩) 7 cap)).run Tryz.prog wr = .ok (.string ⟨(Fs.lowB f l7).toArray⟩) wr := by
        have := hBw.back 7 cap (by rw [Fs.low_len]; exact hlen)
        rwa [Fs.low_all f l7 7 (by omega)] at this
      clear hBw hB7 hb7 HF
      generalize (⟨(Fs.lowB f l7).toArray⟩ : ByteArray) = Z at *
      obtain ⟨x8, rfl⟩ : ∃ x8, x8 = wr := ⟨_, rfl⟩
      have B8 := Lib.hid (B6.out.trans (hbw.mono B6.out.size)); have K8 := Lib.hid (K6.out.grow hbw); have T8 := Lib.hid (T6.out.grow hbw)
      have s8 : x1.heap.size < x8.heap.size := by have h9 := hbw.size; omega
      have ca8 := (hbw.cell (p := ⟨x1.heap.size, 0, none⟩) s6).trans ca6; have cb8 := (hbw.cell (p := ⟨x1.heap.size, 1, none⟩) s6).trans cb6; have cc8 := (hbw.cell (p := ⟨x1.heap.size, 2, none⟩) s6).trans cc6; have cd8 := (hbw.cell (p := ⟨x1.heap.size, 3, none⟩) s6).trans cd6
      clear hbw B6 K6 T6 s6 ca6 cb6 cc6 cd6
      go_wp2_with (first
        | (go_at_call 15; (with_reducible refine (G3.out _ _ _ K8.out T8.out).mono ?_); rintro e x9 ⟨rfl, hb2⟩
           have B9 := Lib.hid (B8.out.trans (hb2.mono B8.out.size)); have K9 := Lib.hid (K8.out.grow hb2); have T9 := Lib.hid (T8.out.grow hb2)
           have s9 : x1.heap.size < x9.heap.size := by have h9 := hb2.size; omega
           have ca9 := (hb2.cell (p := ⟨x1.heap.size, 0, none⟩) s8).trans ca8; have cb9 := (hb2.cell (p := ⟨x1.heap.size, 1, none⟩) s8).trans cb8; have cc9 := (hb2.cell (p := ⟨x1.heap.size, 2, none⟩) s8).trans cc8; have cd9 := (hb2.cell (p := ⟨x1.heap.size, 3, none⟩) s8).trans cd8
           clear hb2))
      have hB := B9.out.drew; have hK := K9.out.grow (Below.refl x9.heap.size x9).drew; have hTT := T9.out.drew
      clear B9 K9 T9
      have B9 := Lib.hid hB; have K9 := Lib.hid hK; have T9 := Lib.hid hTT
      clear hB hK hTT
      go_region_held3 (fun w' => w'.cell? ⟨x1.heap.size, 0, none⟩ = some (.int .i64 1) ∧ w'.cell? ⟨x1.heap.size, 1, none⟩ = some (.int .i64 12) ∧ w'.cell? ⟨x1.heap.size, 2, none⟩ = some (.slice A 12 c) ∧ w'.cell? ⟨x1.heap.size, 3, none⟩ = some (.bool false)) (first | (exact ⟨ca12, cb12, cc12, cd12⟩) | (exact ⟨ca11, cb11, cc11, cd11⟩) | (exact ⟨ca10, cb10, cc10, cd10⟩) | (exact ⟨ca9, cb9, cc9, cd9⟩) | go_keep)
        (first
          | (go_at_call 33; (with_reducible refine (D1.out _).mono ?_); rintro e x10 ⟨rfl, hb2⟩
             have B10 := Lib.hid (B9.out.trans (hb2.mono B9.out.size)); have K10 := Lib.hid (K9.out.grow hb2); have T10 := Lib.hid (T9.out.grow hb2)
             have s10 : x1.heap.size < x10.heap.size := by have h9 := hb2.size; have h8 : (World.drew x9).heap.size = x9.heap.size := rfl; omega
             have ca10 := (hb2.cell (p := ⟨x1.heap.size, 0, none⟩) s9).trans ca9; have cb10 := (hb2.cell (p := ⟨x1.heap.size, 1, none⟩) s9).trans cb9; have cc10 := (hb2.cell (p := ⟨x1.heap.size, 2, none⟩) s9).trans cc9; have cd10 := (hb2.cell (p := ⟨x1.heap.size, 3, none⟩) s9).trans cd9
             clear hb2)
          | (go_at_call 33; (with_reducible refine (D2.out _).mono ?_); rintro e x11 ⟨rfl, hb2⟩
             have B11 := Lib.hid (B10.out.trans (hb2.mono B10.out.size)); have K11 := Lib.hid (K10.out.grow hb2); have T11 := Lib.hid (T10.out.grow hb2)
             have s11 : x1.heap.size < x11.heap.size := by have h9 := hb2.size; have h8 : (World.drew x10).heap.size = x10.heap.size := rfl; omega
             have ca11 := (hb2.cell (p := ⟨x1.heap.size, 0, none⟩) s10).trans ca10; have cb11 := (hb2.cell (p := ⟨x1.heap.size, 1, none⟩) s10).trans cb10; have cc11 := (hb2.cell (p := ⟨x1.heap.size, 2, none⟩) s10).trans cc10; have cd11 := (hb2.cell (p := ⟨x1.heap.size, 3, none⟩) s10).trans cd10
             clear hb2)
          | (go_at_call 15; (with_reducible refine (G4.out _ _ _ K11.out T11.out).mono ?_); rintro e x12 ⟨rfl, hb2⟩
             have B12 := Lib.hid (B11.out.trans (hb2.mono B11.out.size)); have K12 := Lib.hid (K11.out.grow hb2); have T12 := Lib.hid (T11.out.grow hb2)
             have s12 : x1.heap.size < x12.heap.size := by have h9 := hb2.size; have h8 : (World.drew x11).heap.size = x11.heap.size := rfl; omega
             have ca12 := (hb2.cell (p := ⟨x1.heap.size, 0, none⟩) s11).trans ca11; have cb12 := (hb2.cell (p := ⟨x1.heap.size, 1, none⟩) s11).trans cb11; have cc12 := (hb2.cell (p := ⟨x1.heap.size, 2, none⟩) s11).trans cc11; have cd12 := (hb2.cell (p := ⟨x1.heap.size, 3, none⟩) s11).trans cd11
             clear hb2))
      go_wp2_with (first
        | (go_at_call 15; (with_reducible refine (G5.out _ _ _ K12.out T12.out).mono ?_); rintro e x13 ⟨rfl, hb2⟩
           have B13 := Lib.hid (B12.out.trans (hb2.mono B12.out.size)); have K13 := Lib.hid (K12.out.grow hb2); have T13 := Lib.hid (T12.out.grow hb2)
           have s13 : x1.heap.size < x13.heap.size := by have h9 := hb2.size; omega
           have ca13 := (hb2.cell (p := ⟨x1.heap.size, 0, none⟩) s12).trans ca12; have cb13 := (hb2.cell (p := ⟨x1.heap.size, 1, none⟩) s12).trans cb12; have cc13 := (hb2.cell (p := ⟨x1.heap.size, 2, none⟩) s12).trans cc12; have cd13 := (hb2.cell (p := ⟨x1.heap.size, 3, none⟩) s12).trans cd12
           clear hb2)
        | (go_at_call 14; (with_reducible refine (works_true _ T13.out).mono ?_); rintro e xx ⟨rfl, hb2⟩
           have BX := Lib.hid (B13.out.trans (hb2.mono B13.out.size)); clear hb2))
      all_goals (go_ret; exact ⟨rfl, BX.out⟩)
set_option maxRecDepth 100000 in
set_option maxHeartbeats 4000000 in
theorem walk4s (a b : Nat) (ha : a < 256) (hb : b < 256) (sm : Int) (w3 : (Lit.int .u16 sm).wf = true) (w : World) (hT : Tabs w) (hab : b % 12 ≤ a % 12) :
    Calls Tryz.prog 11 #[.bool false, .int .u8 a, .int .u8 b, .int .u16 sm] w fun e w' => e = .returned (.bool true) ∧ Below w.heap.size w w' := by
  obtain ⟨f, hf⟩ : ∃ f : Nat → Bool, ∀ i, f i = (bits .and .u16 (sm / 2 ^ (i % 16)) 1 == 1) := ⟨_, fun _ => rfl⟩
  obtain ⟨T, U, S, hT3, hU3, hS, g1, g2, g3, g4, g5⟩ := texts_at4 (1 + b % 12) (1 + a % 12) (by omega) (by omega) (by omega) f
  have eP : ((1 + b % 12 : Nat) : Int) = 1 + (b : Int) % 12 := by omega
  have eQ : ((1 + a % 12 : Nat) : Int) = 1 + (a : Int) % 12 := by omega
  have D1 : Hid (∀ W, Calls Tryz.prog 33 #[.int .i64 (1 + b % 12 : Nat)] W fun e w' => e = .returned (.string ⟨(Fs.dig (1 + b % 12)).toArray⟩) ∧ Below W.heap.size W w') := Lib.hid fun W => law_digits _ W (by omega)
  have D2 : Hid (∀ W, Calls Tryz.prog 33 #[.int .i64 (1 + a % 12 : Nat)] W fun e w' => e = .returned (.string ⟨(Fs.dig (1 + a % 12)).toArray⟩) ∧ Below W.heap.size W w') := Lib.hid fun W => law_digits _ W (by omega)
  rw [eP] at g1
  rw [eQ] at g2
  have G1 := Lib.hid g1; have G2 := Lib.hid g2; have G3 := Lib.hid g3; have G4 := Lib.hid g4; have G5 := Lib.hid g5
  have hmin : min ((a : Int) % 12) ((b : Int) % 12) = (b : Int) % 12 := by omega
  have hmax : max ((a : Int) % 12) ((b : Int) % 12) = (a : Int) % 12 := by omega
  have H6 := Lib.hid six_at4
  have HT := Lib.hid hT
  have HF := Lib.hid hf
  clear g1 g2 g3 g4 g5 hT hf
  generalize Fs.full (kind 1 12 monthsB false) = fu at *
  go_enter Tryz.func11, Tryz.ntmps11
  go_wp2_with (first
    | (go_at_call 32; (with_reducible refine (H6.out _ HT.out).mono ?_); rintro e x1 ⟨A, c, rfl, hb1, hk1⟩
       have B1 := Lib.hid hb1; have K1 := Lib.hid hk1; have T1 := Lib.hid (HT.out.grow hb1); clear hb1 hk1))
  obtain ⟨x2, hx2⟩ : ∃ x, x1.alloc (.cells #[.int .i64 1, .int .i64 12, .slice A 12 c, .bool false] 30) = x := ⟨_, rfl⟩
  rw [hx2]
  have B2 : Hid (Below w.heap.size w x2) := Lib.hid (hx2 ▸ B1.out.alloc B1.out.size _)
  have K2 : Hid (KindAt x2 4 1 12 A c monthsB false) := Lib.hid (hx2 ▸ K1.out.alloc _)
  have T2 : Hid (Tabs x2) := Lib.hid (hx2 ▸ T1.out.alloc _)
  have c2 : x2.cell? ⟨x1.heap.size, 0, none⟩ = some (.int .i64 1) ∧ x2.cell? ⟨x1.heap.size, 1, none⟩ = some (.int .i64 12) ∧ x2.cell? ⟨x1.heap.size, 2, none⟩ = some (.slice A 12 c) ∧ x2.cell? ⟨x1.heap.size, 3, none⟩ = some (.bool false) := by
    rw [← hx2]
    exact ⟨by rw [World.cell?_alloc_at _ _ _ _ rfl]; rfl, by rw [World.cell?_alloc_at _ _ _ _ rfl]; rfl, by rw [World.cell?_alloc_at _ _ _ _ rfl]; rfl, by rw [World.cell?_alloc_at _ _ _ _ rfl]; rfl⟩
  have s2 : x1.heap.size < x2.heap.size := by rw [← hx2]; simp
  clear hx2 B1 K1 T1
  obtain ⟨ca2, cb2, cc2, cd2⟩ := c2
  go_quiet (fail)
  obtain ⟨x3, hx3⟩ : ∃ x, x2.drewN nq = x := ⟨_, rfl⟩
  rw [hx3]
  have B3 : Hid (Below w.heap.size w x3) := Lib.hid (hx3 ▸ below_drewN B2.out nq)
  have K3 : Hid (KindAt x3 4 1 12 A c monthsB false) := Lib.hid (hx3 ▸ K2.out.grow (below_drewN (Below.refl _ x2) nq))
  have T3 : Hid (Tabs x3) := Lib.hid (hx3 ▸ T2.out.drewN nq)
  have ca3 : x3.cell? ⟨x1.heap.size, 0, none⟩ = some (.int .i64 1) := by rw [← hx3]; exact ca2
  have cb3 : x3.cell? ⟨x1.heap.size, 1, none⟩ = some (.int .i64 12) := by rw [← hx3]; exact cb2
  have cc3 : x3.cell? ⟨x1.heap.size, 2, none⟩ = some (.slice A 12 c) := by rw [← hx3]; exact cc2
  have cd3 : x3.cell? ⟨x1.heap.size, 3, none⟩ = some (.bool false) := by rw [← hx3]; exact cd2
  have s3 : x1.heap.size < x3.heap.size := by rw [← hx3]; exact s2
  clear hx3 B2 K2 T2 ca2 cb2 cc2 cd2 s2
  go_wp2_with fail
  go_quiet (fail)
  obtain ⟨x4, hx4⟩ : ∃ x, x3.drewN nq = x := ⟨_, rfl⟩
  rw [hx4]
  have B4 : Hid (Below w.heap.size w x4) := Lib.hid (hx4 ▸ below_drewN B3.out nq)
  have K4 : Hid (KindAt x4 4 1 12 A c monthsB false) := Lib.hid (hx4 ▸ K3.out.grow (below_drewN (Below.refl _ x3) nq))
  have T4 : Hid (Tabs x4) := Lib.hid (hx4 ▸ T3.out.drewN nq)
  have ca4 : x4.cell? ⟨x1.heap.size, 0, none⟩ = some (.int .i64 1) := by rw [← hx4]; exact ca3
  have cb4 : x4.cell? ⟨x1.heap.size, 1, none⟩ = some (.int .i64 12) := by rw [← hx4]; exact cb3
  have cc4 : x4.cell? ⟨x1.heap.size, 2, none⟩ = some (.slice A 12 c) := by rw [← hx4]; exact cc3
  have cd4 : x4.cell? ⟨x1.heap.size, 3, none⟩ = some (.bool false) := by rw [← hx4]; exact cd3
  have s4 : x1.heap.size < x4.heap.size := by rw [← hx4]; exact s3
  clear hx4 B3 K3 T3 ca3 cb3 cc3 cd3 s3
  have hsz : (T ++ (⟨#[45]⟩ : ByteArray) ++ U).size = 7 := by simp only [ByteArray.size_append]; show _ + 1 + _ = 7; omega
  go_wp2_with (first
    | (go_at_call 28; (with_reducible refine (G1.out _ _ _ K4.out).mono ?_); rintro e x5 ⟨rfl, hb2⟩
       have B5 := Lib.hid (B4.out.trans (hb2.mono B4.out.size)); have K5 := Lib.hid (K4.out.grow hb2); have T5 := Lib.hid (T4.out.grow hb2)
       have s5 : x1.heap.size < x5.heap.size := by have h9 := hb2.size; omega
       have ca5 := (hb2.cell (p := ⟨x1.heap.size, 0, none⟩) s4).trans ca4; have cb5 := (hb2.cell (p := ⟨x1.heap.size, 1, none⟩) s4).trans cb4; have cc5 := (hb2.cell (p := ⟨x1.heap.size, 2, none⟩) s4).trans cc4; have cd5 := (hb2.cell (p := ⟨x1.heap.size, 3, none⟩) s4).trans cd4
       clear hb2)
    | (go_at_call 28; (with_reducible refine (G2.out _ _ _ K5.out).mono ?_); rintro e x6 ⟨rfl, hb2⟩
       have B6 := Lib.hid (B5.out.trans (hb2.mono B5.out.size)); have K6 := Lib.hid (K5.out.grow hb2); have T6 := Lib.hid (T5.out.grow hb2)
       have s6 : x1.heap.size < x6.heap.size := by have h9 := hb2.size; omega
       have ca6 := (hb2.cell (p := ⟨x1.heap.size, 0, none⟩) s5).trans ca5; have cb6 := (hb2.cell (p := ⟨x1.heap.size, 1, none⟩) s5).trans cb5; have cc6 := (hb2.cell (p := ⟨x1.heap.size, 2, none⟩) s5).trans cc5; have cd6 := (hb2.cell (p := ⟨x1.heap.size, 3, none⟩) s5).trans cd5
       clear hb2
       obtain ⟨cap, C, hcv, hBA⟩ := bytes_made x6 (T ++ (⟨#[45]⟩ : ByteArray) ++ U) 7 hsz))
  obtain ⟨x7, hx7⟩ : ∃ x, (x6.alloc (.cells C 5 (C.size, C.size + 1))).drew = x := ⟨_, rfl⟩
  rw [hx7]
  have hb7 : Below x6.heap.size x6 x7 := hx7 ▸ ((Below.refl _ _).alloc (Nat.le_refl _) _).drew
  have hB7 : BytesAt x7 x6.heap.size (T ++ (⟨#[45]⟩ : ByteArray) ++ U).data.toList := hx7 ▸ hBA
  have hlen : (T ++ (⟨#[45]⟩ : ByteArray) ++ U).data.toList.length = 7 := hsz
  clear hx7 hBA hcv hsz G1 G2 HT H6 C hT3 hU3 B4 K4 T4 s4 ca4 cb4 cc4 cd4 B5 K5 T5 s5 ca5 cb5 cc5 cd5
  generalize (T ++ (⟨#[45]⟩ : ByteArray) ++ U).data.toList = l7 at *
  rw [← eP, ← eQ]
  have hp1 : 1 + b % 12 ≤ 12 := by omega
  have hq1 : 1 + a % 12 ≤ 12 := by omega
  clear eP eQ hmin hmax hab
  generalize 1 + b % 12 = p at *
  generalize 1 + a % 12 = q at *
  have lp : (⟨(Fs.dig p).toArray⟩ : ByteArray).size ≤ 2 := by show (Fs.dig p).toArray.size ≤ 2; rw [List.size_toArray]; rcases Fs.dig_len p (by omega) with h | h <;> omega
  have lq : (⟨(Fs.dig q).toArray⟩ : ByteArray).size ≤ 2 := by show (Fs.dig q).toArray.size ≤ 2; rw [List.size_toArray]; rcases Fs.dig_len q (by omega) with h | h <;> omega
  generalize (⟨(Fs.dig p).toArray⟩ : ByteArray) = Dp at *
  generalize (⟨(Fs.dig q).toArray⟩ : ByteArray) = Dq at *
  have a1 := str_add Dp (⟨#[45]⟩ : ByteArray) (by show _ + 1 ≤ _; omega)
  have a2 := str_add (Dp ++ (⟨#[45]⟩ : ByteArray)) Dq (by rw [ByteArray.size_append]; show _ + 1 + _ ≤ _; omega)
  go_loopw [22] (fun v wr => ∃ i : Nat, i ≤ 7 ∧ v = .int .i64 i ∧ Below x6.heap.size x6 wr ∧ BytesAt wr x6.heap.size (Fs.lowB (fun j => decide (j < i) && f j) l7)) (fun v _ => 7 - (intOf v).toNat)
  case atStart => exact ⟨0, by omega, rfl, hb7, by rw [Fs.low_zero]; exact hB7⟩
  case round =>
    obtain ⟨i, hi, rfl, hbw, hBw⟩ := hrel
    by_cases hlt : i < 7
    · obtain ⟨b', hb'⟩ : ∃ b', l7[i]? = some b' := ⟨l7[i], List.getElem?_eq_getElem (by omega)⟩
      obtain ⟨pc, pf⟩ := hBw.at_ hb'
      have HBW := Lib.hid hBw; have Hbw := Lib.hid hbw; have HB' := Lib.hid hb'
      have hff := (HF.out i).symm
      clear hBw hbw hb'
      cases h1 : f i with
      | false =>
        rw [h1] at hff
        go_wp2_with fail
        go_roundw
        case rel => exact ⟨i + 1, by omega, by go_num, Hbw.out, HBW.out.no HB'.out (by rw [h1]; rfl)⟩
        case measure => simp [intOf]; omega
      | true =>
        rw [h1] at hff
        have H1 := Lib.hid h1; clear h1
        by_cases h65 : 65 ≤ b'.toNat
        · by_cases h90 : b'.toNat ≤ 90
          · go_wp2_with fail
            go_roundw
            case rel => exact ⟨i + 1, by omega, by go_num, Hbw.out.setCell (Nat.le_refl _) _, HBW.out.yes HB'.out H1.out _ (by rw [lo1_nat h65 h90])⟩
            case measure => simp [intOf]; omega
          · go_wp2_with fail
            go_roundw
            case rel => exact ⟨i + 1, by omega, by go_num, Hbw.out, HBW.out.no HB'.out (by rw [H1.out, if_pos rfl]; exact lo1_same (by omega))⟩
            case measure => simp [intOf]; omega
        · go_wp2_with fail
          go_roundw
          case rel => exact ⟨i + 1, by omega, by go_num, Hbw.out, HBW.out.no HB'.out (by rw [H1.out, if_pos rfl]; exact lo1_same (by omega))⟩
          case measure => simp [intOf]; omega
    · obtain rfl : i = 7 := by omega
      have hcv : (convert 65 9 (.slice (some ⟨x6.heap.size, 0, none⟩) 7 cap)).run Tryz.prog wr = .ok (.string ⟨(Fs.lowB f l7).toArray⟩) wr := by
        have := hBw.back 7 cap (by rw [Fs.low_len]; exact hlen)
        rwa [Fs.low_all f l7 7 (by omega)] at this
      clear hBw hB7 hb7 HF
      generalize (⟨(Fs.lowB f l7).toArray⟩ : ByteArray) = Z at *
      obtain ⟨x8, rfl⟩ : ∃ x8, x8 = wr := ⟨_, rfl⟩
      have B8 := Lib.hid (B6.out.trans (hbw.mono B6.out.size)); have K8 := Lib.hid (K6.out.grow hbw); have T8 := Lib.hid (T6.out.grow hbw)
      have s8 : x1.heap.size < x8.heap.size := by have h9 := hbw.size; omega
      have ca8 := (hbw.cell (p := ⟨x1.heap.size, 0, none⟩) s6).trans ca6; have cb8 := (hbw.cell (p := ⟨x1.heap.size, 1, none⟩) s6).trans cb6; have cc8 := (hbw.cell (p := ⟨x1.heap.size, 2, none⟩) s6).trans cc6; have cd8 := (hbw.cell (p := ⟨x1.heap.size, 3, none⟩) s6).trans cd6
      clear hbw B6 K6 T6 s6 ca6 cb6 cc6 cd6
      go_wp2_with (first
        | (go_at_call 15; (with_reducible refine (G3.out _ _ _ K8.out T8.out).mono ?_); rintro e x9 ⟨rfl, hb2⟩
           have B9 := Lib.hid (B8.out.trans (hb2.mono B8.out.size)); have K9 := Lib.hid (K8.out.grow hb2); have T9 := Lib.hid (T8.out.grow hb2)
           have s9 : x1.heap.size < x9.heap.size := by have h9 := hb2.size; omega
           have ca9 := (hb2.cell (p := ⟨x1.heap.size, 0, none⟩) s8).trans ca8; have cb9 := (hb2.cell (p := ⟨x1.heap.size, 1, none⟩) s8).trans cb8; have cc9 := (hb2.cell (p := ⟨x1.heap.size, 2, none⟩) s8).trans cc8; have cd9 := (hb2.cell (p := ⟨x1.heap.size, 3, none⟩) s8).trans cd8
           clear hb2))
      have hB := B9.out.drew; have hK := K9.out.grow (Below.refl x9.heap.size x9).drew; have hTT := T9.out.drew
      clear B9 K9 T9
      have B9 := Lib.hid hB; have K9 := Lib.hid hK; have T9 := Lib.hid hTT
      clear hB hK hTT
      go_region_held3 (fun w' => w'.cell? ⟨x1.heap.size, 0, none⟩ = some (.int .i64 1) ∧ w'.cell? ⟨x1.heap.size, 1, none⟩ = some (.int .i64 12) ∧ w'.cell? ⟨x1.heap.size, 2, none⟩ = some (.slice A 12 c) ∧ w'.cell? ⟨x1.heap.size, 3, none⟩ = some (.bool false)) (first | (exact ⟨ca12, cb12, cc12, cd12⟩) | (exact ⟨ca11, cb11, cc11, cd11⟩) | (exact ⟨ca10, cb10, cc10, cd10⟩) | (exact ⟨ca9, cb9, cc9, cd9⟩) | go_keep)
        (first
          | (go_at_call 33; (with_reducible refine (D1.out _).mono ?_); rintro e x10 ⟨rfl, hb2⟩
             have B10 := Lib.hid (B9.out.trans (hb2.mono B9.out.size)); have K10 := Lib.hid (K9.out.grow hb2); have T10 := Lib.hid (T9.out.grow hb2)
             have s10 : x1.heap.size < x10.heap.size := by have h9 := hb2.size; have h8 : (World.drew x9).heap.size = x9.heap.size := rfl; omega
             have ca10 := (hb2.cell (p := ⟨x1.heap.size, 0, none⟩) s9).trans ca9; have cb10 := (hb2.cell (p := ⟨x1.heap.size, 1, none⟩) s9).trans cb9; have cc10 := (hb2.cell (p := ⟨x1.heap.size, 2, none⟩) s9).trans cc9; have cd10 := (hb2.cell (p := ⟨x1.heap.size, 3, none⟩) s9).trans cd9
             clear hb2)
          | (go_at_call 33; (with_reducible refine (D2.out _).mono ?_); rintro e x11 ⟨rfl, hb2⟩
             have B11 := Lib.hid (B10.out.trans (hb2.mono B10.out.size)); have K11 := Lib.hid (K10.out.grow hb2); have T11 := Lib.hid (T10.out.grow hb2)
             have s11 : x1.heap.size < x11.heap.size := by have h9 := hb2.size; have h8 : (World.drew x10).heap.size = x10.heap.size := rfl; omega
             have ca11 := (hb2.cell (p := ⟨x1.heap.size, 0, none⟩) s10).trans ca10; have cb11 := (hb2.cell (p := ⟨x1.heap.size, 1, none⟩) s10).trans cb10; have cc11 := (hb2.cell (p := ⟨x1.heap.size, 2, none⟩) s10).trans cc10; have cd11 := (hb2.cell (p := ⟨x1.heap.size, 3, none⟩) s10).trans cd10
             clear hb2)
          | (go_at_call 15; (with_reducible refine (G4.out _ _ _ K11.out T11.out).mono ?_); rintro e x12 ⟨rfl, hb2⟩
             have B12 := Lib.hid (B11.out.trans (hb2.mono B11.out.size)); have K12 := Lib.hid (K11.out.grow hb2); have T12 := Lib.hid (T11.out.grow hb2)
             have s12 : x1.heap.size < x12.heap.size := by have h9 := hb2.size; have h8 : (World.drew x11).heap.size = x11.heap.size := rfl; omega
             have ca12 := (hb2.cell (p := ⟨x1.heap.size, 0, none⟩) s11).trans ca11; have cb12 := (hb2.cell (p := ⟨x1.heap.size, 1, none⟩) s11).trans cb11; have cc12 := (hb2.cell (p := ⟨x1.heap.size, 2, none⟩) s11).trans cc11; have cd12 := (hb2.cell (p := ⟨x1.heap.size, 3, none⟩) s11).trans cd11
             clear hb2))
      go_wp2_with (first
        | (go_at_call 15; (with_reducible refine (G5.out _ _ _ K12.out T12.out).mono ?_); rintro e x13 ⟨rfl, hb2⟩
           have B13 := Lib.hid (B12.out.trans (hb2.mono B12.out.size)); have K13 := Lib.hid (K12.out.grow hb2); have T13 := Lib.hid (T12.out.grow hb2)
           have s13 : x1.heap.size < x13.heap.size := by have h9 := hb2.size; omega
           have ca13 := (hb2.cell (p := ⟨x1.heap.size, 0, none⟩) s12).trans ca12; have cb13 := (hb2.cell (p := ⟨x1.heap.size, 1, none⟩) s12).trans cb12; have cc13 := (hb2.cell (p := ⟨x1.heap.size, 2, none⟩) s12).trans cc12; have cd13 := (hb2.cell (p := ⟨x1.heap.size, 3, none⟩) s12).trans cd12
           clear hb2)
        | (go_at_call 14; (with_reducible refine (works_true _ T13.out).mono ?_); rintro e xx ⟨rfl, hb2⟩
           have BX := Lib.hid (B13.out.trans (hb2.mono B13.out.size)); clear hb2))
      all_goals (go_ret; exact ⟨rfl, BX.out⟩)
set_option maxRecDepth 100000 in
set_option maxHeartbeats 4000000 in
theorem walk5 (a b : Nat) (ha : a < 256) (hb : b < 256) (sm : Int) (w3 : (Lit.int .u16 sm).wf = true) (w : World) (hT : Tabs w) (hab : a % 7 ≤ b % 7) :
    Calls Tryz.prog 11 #[.bool true, .int .u8 a, .int .u8 b, .int .u16 sm] w fun e w' => e = .returned (.bool true) ∧ Below w.heap.size w w' := by
  obtain ⟨f, hf⟩ : ∃ f : Nat → Bool, ∀ i, f i = (bits .and .u16 (sm / 2 ^ (i % 16)) 1 == 1) := ⟨_, fun _ => rfl⟩
  obtain ⟨T, U, S, hT3, hU3, hS, g1, g2, g3, g4, g5⟩ := texts_at5 (0 + a % 7) (0 + b % 7) (by omega) (by omega) (by omega) f
  have eP : ((0 + a % 7 : Nat) : Int) = (a : Int) % 7 := by omega
  have eQ : ((0 + b % 7 : Nat) : Int) = (b : Int) % 7 := by omega
  have D1 : Hid (∀ W, Calls Tryz.prog 33 #[.int .i64 (0 + a % 7 : Nat)] W fun e w' => e = .returned (.string ⟨(Fs.dig (0 + a % 7)).toArray⟩) ∧ Below W.heap.size W w') := Lib.hid fun W => law_digits _ W (by omega)
  have D2 : Hid (∀ W, Calls Tryz.prog 33 #[.int .i64 (0 + b % 7 : Nat)] W fun e w' => e = .returned (.string ⟨(Fs.dig (0 + b % 7)).toArray⟩) ∧ Below W.heap.size W w') := Lib.hid fun W => law_digits _ W (by omega)
  rw [eP] at g1
  rw [eQ] at g2
  have G1 := Lib.hid g1; have G2 := Lib.hid g2; have G3 := Lib.hid g3; have G4 := Lib.hid g4; have G5 := Lib.hid g5
  have hmin : min ((a : Int) % 7) ((b : Int) % 7) = (a : Int) % 7 := by omega
  have hmax : max ((a : Int) % 7) ((b : Int) % 7) = (b : Int) % 7 := by omega
  have H6 := Lib.hid six_at5
  have HT := Lib.hid hT
  have HF := Lib.hid hf
  clear g1 g2 g3 g4 g5 hT hf
  generalize Fs.full (kind 0 6 daysB true) = fu at *
  go_enter Tryz.func11, Tryz.ntmps11
  go_wp2_with (first
    | (go_at_call 32; (with_reducible refine (H6.out _ HT.out).mono ?_); rintro e x1 ⟨A, c, rfl, hb1, hk1⟩
       have B1 := Lib.hid hb1; have K1 := Lib.hid hk1; have T1 := Lib.hid (HT.out.grow hb1); clear hb1 hk1))
  obtain ⟨x2, hx2⟩ : ∃ x, x1.alloc (.cells #[.int .i64 0, .int .i64 6, .slice A 7 c, .bool true] 30) = x := ⟨_, rfl⟩
  rw [hx2]
  have B2 : Hid (Below w.heap.size w x2) := Lib.hid (hx2 ▸ B1.out.alloc B1.out.size _)
  have K2 : Hid (KindAt x2 5 0 6 A c daysB true) := Lib.hid (hx2 ▸ K1.out.alloc _)
  have T2 : Hid (Tabs x2) := Lib.hid (hx2 ▸ T1.out.alloc _)
  have c2 : x2.cell? ⟨x1.heap.size, 0, none⟩ = some (.int .i64 0) ∧ x2.cell? ⟨x1.heap.size, 1, none⟩ = some (.int .i64 6) ∧ x2.cell? ⟨x1.heap.size, 2, none⟩ = some (.slice A 7 c) ∧ x2.cell? ⟨x1.heap.size, 3, none⟩ = some (.bool true) := by
    rw [← hx2]
    exact ⟨by rw [World.cell?_alloc_at _ _ _ _ rfl]; rfl, by rw [World.cell?_alloc_at _ _ _ _ rfl]; rfl, by rw [World.cell?_alloc_at _ _ _ _ rfl]; rfl, by rw [World.cell?_alloc_at _ _ _ _ rfl]; rfl⟩
  have s2 : x1.heap.size < x2.heap.size := by rw [← hx2]; simp
  clear hx2 B1 K1 T1
  obtain ⟨ca2, cb2, cc2, cd2⟩ := c2
  go_quiet (fail)
  obtain ⟨x3, hx3⟩ : ∃ x, x2.drewN nq = x := ⟨_, rfl⟩
  rw [hx3]
  have B3 : Hid (Below w.heap.size w x3) := Lib.hid (hx3 ▸ below_drewN B2.out nq)
  have K3 : Hid (KindAt x3 5 0 6 A c daysB true) := Lib.hid (hx3 ▸ K2.out.grow (below_drewN (Below.refl _ x2) nq))
  have T3 : Hid (Tabs x3) := Lib.hid (hx3 ▸ T2.out.drewN nq)
  have ca3 : x3.cell? ⟨x1.heap.size, 0, none⟩ = some (.int .i64 0) := by rw [← hx3]; exact ca2
  have cb3 : x3.cell? ⟨x1.heap.size, 1, none⟩ = some (.int .i64 6) := by rw [← hx3]; exact cb2
  have cc3 : x3.cell? ⟨x1.heap.size, 2, none⟩ = some (.slice A 7 c) := by rw [← hx3]; exact cc2
  have cd3 : x3.cell? ⟨x1.heap.size, 3, none⟩ = some (.bool true) := by rw [← hx3]; exact cd2
  have s3 : x1.heap.size < x3.heap.size := by rw [← hx3]; exact s2
  clear hx3 B2 K2 T2 ca2 cb2 cc2 cd2 s2
  go_wp2_with fail
  go_quiet (fail)
  obtain ⟨x4, hx4⟩ : ∃ x, x3.drewN nq = x := ⟨_, rfl⟩
  rw [hx4]
  have B4 : Hid (Below w.heap.size w x4) := Lib.hid (hx4 ▸ below_drewN B3.out nq)
  have K4 : Hid (KindAt x4 5 0 6 A c daysB true) := Lib.hid (hx4 ▸ K3.out.grow (below_drewN (Below.refl _ x3) nq))
  have T4 : Hid (Tabs x4) := Lib.hid (hx4 ▸ T3.out.drewN nq)
  have ca4 : x4.cell? ⟨x1.heap.size, 0, none⟩ = some (.int .i64 0) := by rw [← hx4]; exact ca3
  have cb4 : x4.cell? ⟨x1.heap.size, 1, none⟩ = some (.int .i64 6) := by rw [← hx4]; exact cb3
  have cc4 : x4.cell? ⟨x1.heap.size, 2, none⟩ = some (.slice A 7 c) := by rw [← hx4]; exact cc3
  have cd4 : x4.cell? ⟨x1.heap.size, 3, none⟩ = some (.bool true) := by rw [← hx4]; exact cd3
  have s4 : x1.heap.size < x4.heap.size := by rw [← hx4]; exact s3
  clear hx4 B3 K3 T3 ca3 cb3 cc3 cd3 s3
  have hsz : (T ++ (⟨#[45]⟩ : ByteArray) ++ U).size = 7 := by simp only [ByteArray.size_append]; show _ + 1 + _ = 7; omega
  go_wp2_with (first
    | (go_at_call 28; (with_reducible refine (G1.out _ _ _ K4.out).mono ?_); rintro e x5 ⟨rfl, hb2⟩
       have B5 := Lib.hid (B4.out.trans (hb2.mono B4.out.size)); have K5 := Lib.hid (K4.out.grow hb2); have T5 := Lib.hid (T4.out.grow hb2)
       have s5 : x1.heap.size < x5.heap.size := by have h9 := hb2.size; omega
       have ca5 := (hb2.cell (p := ⟨x1.heap.size, 0, none⟩) s4).trans ca4; have cb5 := (hb2.cell (p := ⟨x1.heap.size, 1, none⟩) s4).trans cb4; have cc5 := (hb2.cell (p := ⟨x1.heap.size, 2, none⟩) s4).trans cc4; have cd5 := (hb2.cell (p := ⟨x1.heap.size, 3, none⟩) s4).trans cd4
       clear hb2)
    | (go_at_call 28; (with_reducible refine (G2.out _ _ _ K5.out).mono ?_); rintro e x6 ⟨rfl, hb2⟩
       have B6 := Lib.hid (B5.out.trans (hb2.mono B5.out.size)); have K6 := Lib.hid (K5.out.grow hb2); have T6 := Lib.hid (T5.out.grow hb2)
       have s6 : x1.heap.size < x6.heap.size := by have h9 := hb2.size; omega
       have ca6 := (hb2.cell (p := ⟨x1.heap.size, 0, none⟩) s5).trans ca5; have cb6 := (hb2.cell (p := ⟨x1.heap.size, 1, none⟩) s5).trans cb5; have cc6 := (hb2.cell (p := ⟨x1.heap.size, 2, none⟩) s5).trans cc5; have cd6 := (hb2.cell (p := ⟨x1.heap.size, 3, none⟩) s5).trans cd5
       clear hb2
       obtain ⟨cap, C, hcv, hBA⟩ := bytes_made x6 (T ++ (⟨#[45]⟩ : ByteArray) ++ U) 7 hsz))
  obtain ⟨x7, hx7⟩ : ∃ x, (x6.alloc (.cells C 5 (C.size, C.size + 1))).drew = x := ⟨_, rfl⟩
  rw [hx7]
  have hb7 : Below x6.heap.size x6 x7 := hx7 ▸ ((Below.refl _ _).alloc (Nat.le_refl _) _).drew
  have hB7 : BytesAt x7 x6.heap.size (T ++ (⟨#[45]⟩ : ByteArray) ++ U).data.toList := hx7 ▸ hBA
  have hlen : (T ++ (⟨#[45]⟩ : ByteArray) ++ U).data.toList.length = 7 := hsz
  clear hx7 hBA hcv hsz G1 G2 HT H6 C hT3 hU3 B4 K4 T4 s4 ca4 cb4 cc4 cd4 B5 K5 T5 s5 ca5 cb5 cc5 cd5
  generalize (T ++ (⟨#[45]⟩ : ByteArray) ++ U).data.toList = l7 at *
  rw [← eP, ← eQ]
  have hp1 : 0 + a % 7 ≤ 6 := by omega
  have hq1 : 0 + b % 7 ≤ 6 := by omega
  clear eP eQ hmin hmax hab
  generalize 0 + a % 7 = p at *
  generalize 0 + b % 7 = q at *
  have lp : (⟨(Fs.dig p).toArray⟩ : ByteArray).size ≤ 2 := by show (Fs.dig p).toArray.size ≤ 2; rw [List.size_toArray]; rcases Fs.dig_len p (by omega) with h | h <;> omega
  have lq : (⟨(Fs.dig q).toArray⟩ : ByteArray).size ≤ 2 := by show (Fs.dig q).toArray.size ≤ 2; rw [List.size_toArray]; rcases Fs.dig_len q (by omega) with h | h <;> omega
  generalize (⟨(Fs.dig p).toArray⟩ : ByteArray) = Dp at *
  generalize (⟨(Fs.dig q).toArray⟩ : ByteArray) = Dq at *
  have a1 := str_add Dp (⟨#[45]⟩ : ByteArray) (by show _ + 1 ≤ _; omega)
  have a2 := str_add (Dp ++ (⟨#[45]⟩ : ByteArray)) Dq (by rw [ByteArray.size_append]; show _ + 1 + _ ≤ _; omega)
  go_loopw [22] (fun v wr => ∃ i : Nat, i ≤ 7 ∧ v = .int .i64 i ∧ Below x6.heap.size x6 wr ∧ BytesAt wr x6.heap.size (Fs.lowB (fun j => decide (j < i) && f j) l7)) (fun v _ => 7 - (intOf v).toNat)
  case atStart => exact ⟨0, by omega, rfl, hb7, by rw [Fs.low_zero]; exact hB7⟩
  case round =>
    obtain ⟨i, hi, rfl, hbw, hBw⟩ := hrel
    by_cases hlt : i < 7
    · obtain ⟨b', hb'⟩ : ∃ b', l7[i]? = some b' := ⟨l7[i], List.getElem?_eq_getElem (by omega)⟩
      obtain ⟨pc, pf⟩ := hBw.at_ hb'
      have HBW := Lib.hid hBw; have Hbw := Lib.hid hbw; have HB' := Lib.hid hb'
      have hff := (HF.out i).symm
      clear hBw hbw hb'
      cases h1 : f i with
      | false =>
        rw [h1] at hff
        go_wp2_with fail
        go_roundw
        case rel => exact ⟨i + 1, by omega, by go_num, Hbw.out, HBW.out.no HB'.out (by rw [h1]; rfl)⟩
        case measure => simp [intOf]; omega
      | true =>
        rw [h1] at hff
        have H1 := Lib.hid h1; clear h1
        by_cases h65 : 65 ≤ b'.toNat
        · by_cases h90 : b'.toNat ≤ 90
          · go_wp2_with fail
            go_roundw
            case rel => exact ⟨i + 1, by omega, by go_num, Hbw.out.setCell (Nat.le_refl _) _, HBW.out.yes HB'.out H1.out _ (by rw [lo1_nat h65 h90])⟩
            case measure => simp [intOf]; omega
          · go_wp2_with fail
            go_roundw
            case rel => exact ⟨i + 1, by omega, by go_num, Hbw.out, HBW.out.no HB'.out (by rw [H1.out, if_pos rfl]; exact lo1_same (by omega))⟩
            case measure => simp [intOf]; omega
        · go_wp2_with fail
          go_roundw
          case rel => exact ⟨i + 1, by omega, by go_num, Hbw.out, HBW.out.no HB'.out (by rw [H1.out, if_pos rfl]; exact lo1_same (by omega))⟩
          case measure => simp [intOf]; omega
    · obtain rfl : i = 7 := by omega
      have hcv : (convert 65 9 (.slice (some ⟨x6.heap.size, 0, none⟩) 7 cap)).run Tryz.prog wr = .ok (.string ⟨(Fs.lowB f l7).toArray⟩) wr := by
        have := hBw.back 7 cap (by rw [Fs.low_len]; exact hlen)
        rwa [Fs.low_all f l7 7 (by omega)] at this
      clear hBw hB7 hb7 HF
      generalize (⟨(Fs.lowB f l7).toArray⟩ : ByteArray) = Z at *
      obtain ⟨x8, rfl⟩ : ∃ x8, x8 = wr := ⟨_, rfl⟩
      have B8 := Lib.hid (B6.out.trans (hbw.mono B6.out.size)); have K8 := Lib.hid (K6.out.grow hbw); have T8 := Lib.hid (T6.out.grow hbw)
      have s8 : x1.heap.size < x8.heap.size := by have h9 := hbw.size; omega
      have ca8 := (hbw.cell (p := ⟨x1.heap.size, 0, none⟩) s6).trans ca6; have cb8 := (hbw.cell (p := ⟨x1.heap.size, 1, none⟩) s6).trans cb6; have cc8 := (hbw.cell (p := ⟨x1.heap.size, 2, none⟩) s6).trans cc6; have cd8 := (hbw.cell (p := ⟨x1.heap.size, 3, none⟩) s6).trans cd6
      clear hbw B6 K6 T6 s6 ca6 cb6 cc6 cd6
      go_wp2_with (first
        | (go_at_call 15; (with_reducible refine (G3.out _ _ _ K8.out T8.out).mono ?_); rintro e x9 ⟨rfl, hb2⟩
           have B9 := Lib.hid (B8.out.trans (hb2.mono B8.out.size)); have K9 := Lib.hid (K8.out.grow hb2); have T9 := Lib.hid (T8.out.grow hb2)
           have s9 : x1.heap.size < x9.heap.size := by have h9 := hb2.size; omega
           have ca9 := (hb2.cell (p := ⟨x1.heap.size, 0, none⟩) s8).trans ca8; have cb9 := (hb2.cell (p := ⟨x1.heap.size, 1, none⟩) s8).trans cb8; have cc9 := (hb2.cell (p := ⟨x1.heap.size, 2, none⟩) s8).trans cc8; have cd9 := (hb2.cell (p := ⟨x1.heap.size, 3, none⟩) s8).trans cd8
           clear hb2))
      have hB := B9.out.drew; have hK := K9.out.grow (Below.refl x9.heap.size x9).drew; have hTT := T9.out.drew
      clear B9 K9 T9
      have B9 := Lib.hid hB; have K9 := Lib.hid hK; have T9 := Lib.hid hTT
      clear hB hK hTT
      go_region_held3 (fun w' => w'.cell? ⟨x1.heap.size, 0, none⟩ = some (.int .i64 0) ∧ w'.cell? ⟨x1.heap.size, 1, none⟩ = some (.int .i64 6) ∧ w'.cell? ⟨x1.heap.size, 2, none⟩ = some (.slice A 7 c) ∧ w'.cell? ⟨x1.heap.size, 3, none⟩ = some (.bool true)) (first | (exact ⟨ca12, cb12, cc12, cd12⟩) | (exact ⟨ca11, cb11, cc11, cd11⟩) | (exact ⟨ca10, cb10, cc10, cd10⟩) | (exact ⟨ca9, cb9, cc9, cd9⟩) | go_keep)
        (first
          | (go_at_call 33; (with_reducible refine (D1.out _).mono ?_); rintro e x10 ⟨rfl, hb2⟩
             have B10 := Lib.hid (B9.out.trans (hb2.mono B9.out.size)); have K10 := Lib.hid (K9.out.grow hb2); have T10 := Lib.hid (T9.out.grow hb2)
             have s10 : x1.heap.size < x10.heap.size := by have h9 := hb2.size; have h8 : (World.drew x9).heap.size = x9.heap.size := rfl; omega
             have ca10 := (hb2.cell (p := ⟨x1.heap.size, 0, none⟩) s9).trans ca9; have cb10 := (hb2.cell (p := ⟨x1.heap.size, 1, none⟩) s9).trans cb9; have cc10 := (hb2.cell (p := ⟨x1.heap.size, 2, none⟩) s9).trans cc9; have cd10 := (hb2.cell (p := ⟨x1.heap.size, 3, none⟩) s9).trans cd9
             clear hb2)
          | (go_at_call 33; (with_reducible refine (D2.out _).mono ?_); rintro e x11 ⟨rfl, hb2⟩
             have B11 := Lib.hid (B10.out.trans (hb2.mono B10.out.size)); have K11 := Lib.hid (K10.out.grow hb2); have T11 := Lib.hid (T10.out.grow hb2)
             have s11 : x1.heap.size < x11.heap.size := by have h9 := hb2.size; have h8 : (World.drew x10).heap.size = x10.heap.size := rfl; omega
             have ca11 := (hb2.cell (p := ⟨x1.heap.size, 0, none⟩) s10).trans ca10; have cb11 := (hb2.cell (p := ⟨x1.heap.size, 1, none⟩) s10).trans cb10; have cc11 := (hb2.cell (p := ⟨x1.heap.size, 2, none⟩) s10).trans cc10; have cd11 := (hb2.cell (p := ⟨x1.heap.size, 3, none⟩) s10).trans cd10
             clear hb2)
          | (go_at_call 15; (with_reducible refine (G4.out _ _ _ K11.out T11.out).mono ?_); rintro e x12 ⟨rfl, hb2⟩
             have B12 := Lib.hid (B11.out.trans (hb2.mono B11.out.size)); have K12 := Lib.hid (K11.out.grow hb2); have T12 := Lib.hid (T11.out.grow hb2)
             have s12 : x1.heap.size < x12.heap.size := by have h9 := hb2.size; have h8 : (World.drew x11).heap.size = x11.heap.size := rfl; omega
             have ca12 := (hb2.cell (p := ⟨x1.heap.size, 0, none⟩) s11).trans ca11; have cb12 := (hb2.cell (p := ⟨x1.heap.size, 1, none⟩) s11).trans cb11; have cc12 := (hb2.cell (p := ⟨x1.heap.size, 2, none⟩) s11).trans cc11; have cd12 := (hb2.cell (p := ⟨x1.heap.size, 3, none⟩) s11).trans cd11
             clear hb2))
      go_wp2_with (first
        | (go_at_call 15; (with_reducible refine (G5.out _ _ _ K12.out T12.out).mono ?_); rintro e x13 ⟨rfl, hb2⟩
           have B13 := Lib.hid (B12.out.trans (hb2.mono B12.out.size)); have K13 := Lib.hid (K12.out.grow hb2); have T13 := Lib.hid (T12.out.grow hb2)
           have s13 : x1.heap.size < x13.heap.size := by have h9 := hb2.size; omega
           have ca13 := (hb2.cell (p := ⟨x1.heap.size, 0, none⟩) s12).trans ca12; have cb13 := (hb2.cell (p := ⟨x1.heap.size, 1, none⟩) s12).trans cb12; have cc13 := (hb2.cell (p := ⟨x1.heap.size, 2, none⟩) s12).trans cc12; have cd13 := (hb2.cell (p := ⟨x1.heap.size, 3, none⟩) s12).trans cd12
           clear hb2)
        | (go_at_call 14; (with_reducible refine (works_true _ T13.out).mono ?_); rintro e xx ⟨rfl, hb2⟩
           have BX := Lib.hid (B13.out.trans (hb2.mono B13.out.size)); clear hb2))
      all_goals (go_ret; exact ⟨rfl, BX.out⟩)
set_option maxRecDepth 100000 in
set_option maxHeartbeats 4000000 in
theorem walk5s (a b : Nat) (ha : a < 256) (hb : b < 256) (sm : Int) (w3 : (Lit.int .u16 sm).wf = true) (w : World) (hT : Tabs w) (hab : b % 7 ≤ a % 7) :
    Calls Tryz.prog 11 #[.bool true, .int .u8 a, .int .u8 b, .int .u16 sm] w fun e w' => e = .returned (.bool true) ∧ Below w.heap.size w w' := by
  obtain ⟨f, hf⟩ : ∃ f : Nat → Bool, ∀ i, f i = (bits .and .u16 (sm / 2 ^ (i % 16)) 1 == 1) := ⟨_, fun _ => rfl⟩
  obtain ⟨T, U, S, hT3, hU3, hS, g1, g2, g3, g4, g5⟩ := texts_at5 (0 + b % 7) (0 + a % 7) (by omega) (by omega) (by omega) f
  have eP : ((0 + b % 7 : Nat) : Int) = (b : Int) % 7 := by omega
  have eQ : ((0 + a % 7 : Nat) : Int) = (a : Int) % 7 := by omega
  have D1 : Hid (∀ W, Calls Tryz.prog 33 #[.int .i64 (0 + b % 7 : Nat)] W fun e w' => e = .returned (.string ⟨(Fs.dig (0 + b % 7)).toArray⟩) ∧ Below W.heap.size W w') := Lib.hid fun W => law_digits _ W (by omega)
  have D2 : Hid (∀ W, Calls Tryz.prog 33 #[.int .i64 (0 + a % 7 : Nat)] W fun e w' => e = .returned (.string ⟨(Fs.dig (0 + a % 7)).toArray⟩) ∧ Below W.heap.size W w') := Lib.hid fun W => law_digits _ W (by omega)
  rw [eP] at g1
  rw [eQ] at g2
  have G1 := Lib.hid g1; have G2 := Lib.hid g2; have G3 := Lib.hid g3; have G4 := Lib.hid g4; have G5 := Lib.hid g5
  have hmin : min ((a : Int) % 7) ((b : Int) % 7) = (b : Int) % 7 := by omega
  have hmax : max ((a : Int) % 7) ((b : Int) % 7) = (a : Int) % 7 := by omega
  have H6 := Lib.hid six_at5
  have HT := Lib.hid hT
  have HF := Lib.hid hf
  clear g1 g2 g3 g4 g5 hT hf
  generalize Fs.full (kind 0 6 daysB true) = fu at *
  go_enter Tryz.func11, Tryz.ntmps11
  go_wp2_with (first
    | (go_at_call 32; (with_reducible refine (H6.out _ HT.out).mono ?_); rintro e x1 ⟨A, c, rfl, hb1, hk1⟩
       have B1 := Lib.hid hb1; have K1 := Lib.hid hk1; have T1 := Lib.hid (HT.out.grow hb1); clear hb1 hk1))
  obtain ⟨x2, hx2⟩ : ∃ x, x1.alloc (.cells #[.int .i64 0, .int .i64 6, .slice A 7 c, .bool true] 30) = x := ⟨_, rfl⟩
  rw [hx2]
  have B2 : Hid (Below w.heap.size w x2) := Lib.hid (hx2 ▸ B1.out.alloc B1.out.size _)
  have K2 : Hid (KindAt x2 5 0 6 A c daysB true) := Lib.hid (hx2 ▸ K1.out.alloc _)
  have T2 : Hid (Tabs x2) := Lib.hid (hx2 ▸ T1.out.alloc _)
  have c2 : x2.cell? ⟨x1.heap.size, 0, none⟩ = some (.int .i64 0) ∧ x2.cell? ⟨x1.heap.size, 1, none⟩ = some (.int .i64 6) ∧ x2.cell? ⟨x1.heap.size, 2, none⟩ = some (.slice A 7 c) ∧ x2.cell? ⟨x1.heap.size, 3, none⟩ = some (.bool true) := by
    rw [← hx2]
    exact ⟨by rw [World.cell?_alloc_at _ _ _ _ rfl]; rfl, by rw [World.cell?_alloc_at _ _ _ _ rfl]; rfl, by rw [World.cell?_alloc_at _ _ _ _ rfl]; rfl, by rw [World.cell?_alloc_at _ _ _ _ rfl]; rfl⟩
  have s2 : x1.heap.size < x2.heap.size := by rw [← hx2]; simp
  clear hx2 B1 K1 T1
  obtain ⟨ca2, cb2, cc2, cd2⟩ := c2
  go_quiet (fail)
  obtain ⟨x3, hx3⟩ : ∃ x, x2.drewN nq = x := ⟨_, rfl⟩
  rw [hx3]
  have B3 : Hid (Below w.heap.size w x3) := Lib.hid (hx3 ▸ below_drewN B2.out nq)
  have K3 : Hid (KindAt x3 5 0 6 A c daysB true) := Lib.hid (hx3 ▸ K2.out.grow (below_drewN (Below.refl _ x2) nq))
  have T3 : Hid (Tabs x3) := Lib.hid (hx3 ▸ T2.out.drewN nq)
  have ca3 : x3.cell? ⟨x1.heap.size, 0, none⟩ = some (.int .i64 0) := by rw [← hx3]; exact ca2
  have cb3 : x3.cell? ⟨x1.heap.size, 1, none⟩ = some (.int .i64 6) := by rw [← hx3]; exact cb2
  have cc3 : x3.cell? ⟨x1.heap.size, 2, none⟩ = some (.slice A 7 c) := by rw [← hx3]; exact cc2
  have cd3 : x3.cell? ⟨x1.heap.size, 3, none⟩ = some (.bool true) := by rw [← hx3]; exact cd2
  have s3 : x1.heap.size < x3.heap.size := by rw [← hx3]; exact s2
  clear hx3 B2 K2 T2 ca2 cb2 cc2 cd2 s2
  go_wp2_with fail
  go_quiet (fail)
  obtain ⟨x4, hx4⟩ : ∃ x, x3.drewN nq = x := ⟨_, rfl⟩
  rw [hx4]
  have B4 : Hid (Below w.heap.size w x4) := Lib.hid (hx4 ▸ below_drewN B3.out nq)
  have K4 : Hid (KindAt x4 5 0 6 A c daysB true) := Lib.hid (hx4 ▸ K3.out.grow (below_drewN (Below.refl _ x3) nq))
  have T4 : Hid (Tabs x4) := Lib.hid (hx4 ▸ T3.out.drewN nq)
  have ca4 : x4.cell? ⟨x1.heap.size, 0, none⟩ = some (.int .i64 0) := by rw [← hx4]; exact ca3
  have cb4 : x4.cell? ⟨x1.heap.size, 1, none⟩ = some (.int .i64 6) := by rw [← hx4]; exact cb3
  have cc4 : x4.cell? ⟨x1.heap.size, 2, none⟩ = some (.slice A 7 c) := by rw [← hx4]; exact cc3
  have cd4 : x4.cell? ⟨x1.heap.size, 3, none⟩ = some (.bool true) := by rw [← hx4]; exact cd3
  have s4 : x1.heap.size < x4.heap.size := by rw [← hx4]; exact s3
  clear hx4 B3 K3 T3 ca3 cb3 cc3 cd3 s3
  have hsz : (T ++ (⟨#[45]⟩ : ByteArray) ++ U).size = 7 := by simp only [ByteArray.size_append]; show _ + 1 + _ = 7; omega
  go_wp2_with (first
    | (go_at_call 28; (with_reducible refine (G1.out _ _ _ K4.out).mono ?_); rintro e x5 ⟨rfl, hb2⟩
       have B5 := Lib.hid (B4.out.trans (hb2.mono B4.out.size)); have K5 := Lib.hid (K4.out.grow hb2); have T5 := Lib.hid (T4.out.grow hb2)
       have s5 : x1.heap.size < x5.heap.size := by have h9 := hb2.size; omega
       have ca5 := (hb2.cell (p := ⟨x1.heap.size, 0, none⟩) s4).trans ca4; have cb5 := (hb2.cell (p := ⟨x1.heap.size, 1, none⟩) s4).trans cb4; have cc5 := (hb2.cell (p := ⟨x1.heap.size, 2, none⟩) s4).trans cc4; have cd5 := (hb2.cell (p := ⟨x1.heap.size, 3, none⟩) s4).trans cd4
       clear hb2)
    | (go_at_call 28; (with_reducible refine (G2.out _ _ _ K5.out).mono ?_); rintro e x6 ⟨rfl, hb2⟩
       have B6 := Lib.hid (B5.out.trans (hb2.mono B5.out.size)); have K6 := Lib.hid (K5.out.grow hb2); have T6 := Lib.hid (T5.out.grow hb2)
       have s6 : x1.heap.size < x6.heap.size := by have h9 := hb2.size; omega
       have ca6 := (hb2.cell (p := ⟨x1.heap.size, 0, none⟩) s5).trans ca5; have cb6 := (hb2.cell (p := ⟨x1.heap.size, 1, none⟩) s5).trans cb5; have cc6 := (hb2.cell (p := ⟨x1.heap.size, 2, none⟩) s5).trans cc5; have cd6 := (hb2.cell (p := ⟨x1.heap.size, 3, none⟩) s5).trans cd5
       clear hb2
       obtain ⟨cap, C, hcv, hBA⟩ := bytes_made x6 (T ++ (⟨#[45]⟩ : ByteArray) ++ U) 7 hsz))
  obtain ⟨x7, hx7⟩ : ∃ x, (x6.alloc (.cells C 5 (C.size, C.size + 1))).drew = x := ⟨_, rfl⟩
  rw [hx7]
  have hb7 : Below x6.heap.size x6 x7 := hx7 ▸ ((Below.refl _ _).alloc (Nat.le_refl _) _).drew
  have hB7 : BytesAt x7 x6.heap.size (T ++ (⟨#[45]⟩ : ByteArray) ++ U).data.toList := hx7 ▸ hBA
  have hlen : (T ++ (⟨#[45]⟩ : ByteArray) ++ U).data.toList.length = 7 := hsz
  clear hx7 hBA hcv hsz G1 G2 HT H6 C hT3 hU3 B4 K4 T4 s4 ca4 cb4 cc4 cd4 B5 K5 T5 s5 ca5 cb5 cc5 cd5
  generalize (T ++ (⟨#[45]⟩ : ByteArray) ++ U).data.toList = l7 at *
  rw [← eP, ← eQ]
  have hp1 : 0 + b % 7 ≤ 6 := by omega
  have hq1 : 0 + a % 7 ≤ 6 := by omega
  clear eP eQ hmin hmax hab
  generalize 0 + b % 7 = p at *
  generalize 0 + a % 7 = q at *
  have lp : (⟨(Fs.dig p).toArray⟩ : ByteArray).size ≤ 2 := by show (Fs.dig p).toArray.size ≤ 2; rw [List.size_toArray]; rcases Fs.dig_len p (by omega) with h | h <;> omega
  have lq : (⟨(Fs.dig q).toArray⟩ : ByteArray).size ≤ 2 := by show (Fs.dig q).toArray.size ≤ 2; rw [List.size_toArray]; rcases Fs.dig_len q (by omega) with h | h <;> omega
  generalize (⟨(Fs.dig p).toArray⟩ : ByteArray) = Dp at *
  generalize (⟨(Fs.dig q).toArray⟩ : ByteArray) = Dq at *
  have a1 := str_add Dp (⟨#[45]⟩ : ByteArray) (by show _ + 1 ≤ _; omega)
  have a2 := str_add (Dp ++ (⟨#[45]⟩ : ByteArray)) Dq (by rw [ByteArray.size_append]; show _ + 1 + _ ≤ _; omega)
  go_loopw [22] (fun v wr => ∃ i : Nat, i ≤ 7 ∧ v = .int .i64 i ∧ Below x6.heap.size x6 wr ∧ BytesAt wr x6.heap.size (Fs.lowB (fun j => decide (j < i) && f j) l7)) (fun v _ => 7 - (intOf v).toNat)
  case atStart => exact ⟨0, by omega, rfl, hb7, by rw [Fs.low_zero]; exact hB7⟩
  case round =>
    obtain ⟨i, hi, rfl, hbw, hBw⟩ := hrel
    by_cases hlt : i < 7
    · obtain ⟨b', hb'⟩ : ∃ b', l7[i]? = some b' := ⟨l7[i], List.getElem?_eq_getElem (by omega)⟩
      obtain ⟨pc, pf⟩ := hBw.at_ hb'
      have HBW := Lib.hid hBw; have Hbw := Lib.hid hbw; have HB' := Lib.hid hb'
      have hff := (HF.out i).symm
      clear hBw hbw hb'
      cases h1 : f i with
      | false =>
        rw [h1] at hff
        go_wp2_with fail
        go_roundw
        case rel => exact ⟨i + 1, by omega, by go_num, Hbw.out, HBW.out.no HB'.out (by rw [h1]; rfl)⟩
        case measure => simp [intOf]; omega
      | true =>
        rw [h1] at hff
        have H1 := Lib.hid h1; clear h1
        by_cases h65 : 65 ≤ b'.toNat
        · by_cases h90 : b'.toNat ≤ 90
          · go_wp2_with fail
            go_roundw
            case rel => exact ⟨i + 1, by omega, by go_num, Hbw.out.setCell (Nat.le_refl _) _, HBW.out.yes HB'.out H1.out _ (by rw [lo1_nat h65 h90])⟩
            case measure => simp [intOf]; omega
          · go_wp2_with fail
            go_roundw
            case rel => exact ⟨i + 1, by omega, by go_num, Hbw.out, HBW.out.no HB'.out (by rw [H1.out, if_pos rfl]; exact lo1_same (by omega))⟩
            case measure => simp [intOf]; omega
        · go_wp2_with fail
          go_roundw
          case rel => exact ⟨i + 1, by omega, by go_num, Hbw.out, HBW.out.no HB'.out (by rw [H1.out, if_pos rfl]; exact lo1_same (by omega))⟩
          case measure => simp [intOf]; omega
    · obtain rfl : i = 7 := by omega
      have hcv : (convert 65 9 (.slice (some ⟨x6.heap.size, 0, none⟩) 7 cap)).run Tryz.prog wr = .ok (.string ⟨(Fs.lowB f l7).toArray⟩) wr := by
        have := hBw.back 7 cap (by rw [Fs.low_len]; exact hlen)
        rwa [Fs.low_all f l7 7 (by omega)] at this
      clear hBw hB7 hb7 HF
      generalize (⟨(Fs.lowB f l7).toArray⟩ : ByteArray) = Z at *
      obtain ⟨x8, rfl⟩ : ∃ x8, x8 = wr := ⟨_, rfl⟩
      have B8 := Lib.hid (B6.out.trans (hbw.mono B6.out.size)); have K8 := Lib.hid (K6.out.grow hbw); have T8 := Lib.hid (T6.out.grow hbw)
      have s8 : x1.heap.size < x8.heap.size := by have h9 := hbw.size; omega
      have ca8 := (hbw.cell (p := ⟨x1.heap.size, 0, none⟩) s6).trans ca6; have cb8 := (hbw.cell (p := ⟨x1.heap.size, 1, none⟩) s6).trans cb6; have cc8 := (hbw.cell (p := ⟨x1.heap.size, 2, none⟩) s6).trans cc6; have cd8 := (hbw.cell (p := ⟨x1.heap.size, 3, none⟩) s6).trans cd6
      clear hbw B6 K6 T6 s6 ca6 cb6 cc6 cd6
      go_wp2_with (first
        | (go_at_call 15; (with_reducible refine (G3.out _ _ _ K8.out T8.out).mono ?_); rintro e x9 ⟨rfl, hb2⟩
           have B9 := Lib.hid (B8.out.trans (hb2.mono B8.out.size)); have K9 := Lib.hid (K8.out.grow hb2); have T9 := Lib.hid (T8.out.grow hb2)
           have s9 : x1.heap.size < x9.heap.size := by have h9 := hb2.size; omega
           have ca9 := (hb2.cell (p := ⟨x1.heap.size, 0, none⟩) s8).trans ca8; have cb9 := (hb2.cell (p := ⟨x1.heap.size, 1, none⟩) s8).trans cb8; have cc9 := (hb2.cell (p := ⟨x1.heap.size, 2, none⟩) s8).trans cc8; have cd9 := (hb2.cell (p := ⟨x1.heap.size, 3, none⟩) s8).trans cd8
           clear hb2))
      have hB := B9.out.drew; have hK := K9.out.grow (Below.refl x9.heap.size x9).drew; have hTT := T9.out.drew
      clear B9 K9 T9
      have B9 := Lib.hid hB; have K9 := Lib.hid hK; have T9 := Lib.hid hTT
      clear hB hK hTT
      go_region_held3 (fun w' => w'.cell? ⟨x1.heap.size, 0, none⟩ = some (.int .i64 0) ∧ w'.cell? ⟨x1.heap.size, 1, none⟩ = some (.int .i64 6) ∧ w'.cell? ⟨x1.heap.size, 2, none⟩ = some (.slice A 7 c) ∧ w'.cell? ⟨x1.heap.size, 3, none⟩ = some (.bool true)) (first | (exact ⟨ca12, cb12, cc12, cd12⟩) | (exact ⟨ca11, cb11, cc11, cd11⟩) | (exact ⟨ca10, cb10, cc10, cd10⟩) | (exact ⟨ca9, cb9, cc9, cd9⟩) | go_keep)
        (first
          | (go_at_call 33; (with_reducible refine (D1.out _).mono ?_); rintro e x10 ⟨rfl, hb2⟩
             have B10 := Lib.hid (B9.out.trans (hb2.mono B9.out.size)); have K10 := Lib.hid (K9.out.grow hb2); have T10 := Lib.hid (T9.out.grow hb2)
             have s10 : x1.heap.size < x10.heap.size := by have h9 := hb2.size; have h8 : (World.drew x9).heap.size = x9.heap.size := rfl; omega
             have ca10 := (hb2.cell (p := ⟨x1.heap.size, 0, none⟩) s9).trans ca9; have cb10 := (hb2.cell (p := ⟨x1.heap.size, 1, none⟩) s9).trans cb9; have cc10 := (hb2.cell (p := ⟨x1.heap.size, 2, none⟩) s9).trans cc9; have cd10 := (hb2.cell (p := ⟨x1.heap.size, 3, none⟩) s9).trans cd9
             clear hb2)
          | (go_at_call 33; (with_reducible refine (D2.out _).mono ?_); rintro e x11 ⟨rfl, hb2⟩
             have B11 := Lib.hid (B10.out.trans (hb2.mono B10.out.size)); have K11 := Lib.hid (K10.out.grow hb2); have T11 := Lib.hid (T10.out.grow hb2)
             have s11 : x1.heap.size < x11.heap.size := by have h9 := hb2.size; have h8 : (World.drew x10).heap.size = x10.heap.size := rfl; omega
             have ca11 := (hb2.cell (p := ⟨x1.heap.size, 0, none⟩) s10).trans ca10; have cb11 := (hb2.cell (p := ⟨x1.heap.size, 1, none⟩) s10).trans cb10; have cc11 := (hb2.cell (p := ⟨x1.heap.size, 2, none⟩) s10).trans cc10; have cd11 := (hb2.cell (p := ⟨x1.heap.size, 3, none⟩) s10).trans cd10
             clear hb2)
          | (go_at_call 15; (with_reducible refine (G4.out _ _ _ K11.out T11.out).mono ?_); rintro e x12 ⟨rfl, hb2⟩
             have B12 := Lib.hid (B11.out.trans (hb2.mono B11.out.size)); have K12 := Lib.hid (K11.out.grow hb2); have T12 := Lib.hid (T11.out.grow hb2)
             have s12 : x1.heap.size < x12.heap.size := by have h9 := hb2.size; have h8 : (World.drew x11).heap.size = x11.heap.size := rfl; omega
             have ca12 := (hb2.cell (p := ⟨x1.heap.size, 0, none⟩) s11).trans ca11; have cb12 := (hb2.cell (p := ⟨x1.heap.size, 1, none⟩) s11).trans cb11; have cc12 := (hb2.cell (p := ⟨x1.heap.size, 2, none⟩) s11).trans cc11; have cd12 := (hb2.cell (p := ⟨x1.heap.size, 3, none⟩) s11).trans cd11
             clear hb2))
      go_wp2_with (first
        | (go_at_call 15; (with_reducible refine (G5.out _ _ _ K12.out T12.out).mono ?_); rintro e x13 ⟨rfl, hb2⟩
           have B13 := Lib.hid (B12.out.trans (hb2.mono B12.out.size)); have K13 := Lib.hid (K12.out.grow hb2); have T13 := Lib.hid (T12.out.grow hb2)
           have s13 : x1.heap.size < x13.heap.size := by have h9 := hb2.size; omega
           have ca13 := (hb2.cell (p := ⟨x1.heap.size, 0, none⟩) s12).trans ca12; have cb13 := (hb2.cell (p := ⟨x1.heap.size, 1, none⟩) s12).trans cb12; have cc13 := (hb2.cell (p := ⟨x1.heap.size, 2, none⟩) s12).trans cc12; have cd13 := (hb2.cell (p := ⟨x1.heap.size, 3, none⟩) s12).trans cd12
           clear hb2)
        | (go_at_call 14; (with_reducible refine (works_true _ T13.out).mono ?_); rintro e xx ⟨rfl, hb2⟩
           have BX := Lib.hid (B13.out.trans (hb2.mono B13.out.size)); clear hb2))
      all_goals (go_ret; exact ⟨rfl, BX.out⟩)
theorem walk (a0 : Bool) (a1 a2 a3 : Int) (w1 : (Lit.int .u8 a1).wf = true) (w2 : (Lit.int .u8 a2).wf = true) (w3 : (Lit.int .u16 a3).wf = true) (w : World) (hT : Tabs w) :
    Calls Tryz.prog 11 #[.bool a0, .int .u8 a1, .int .u8 a2, .int .u16 a3] w fun e w' => e = .returned (.bool true) ∧ Below w.heap.size w w' := by
  obtain ⟨a, rfl, ha⟩ := u8_nat w1
  obtain ⟨b, rfl, hb⟩ := u8_nat w2
  cases a0 with
  | false =>
    rcases Nat.le_total (a % 12) (b % 12) with h | h
    · exact walk4 a b ha hb a3 w3 w hT h
    · exact walk4s a b ha hb a3 w3 w hT h
  | true =>
    rcases Nat.le_total (a % 7) (b % 7) with h | h
    · exact walk5 a b ha hb a3 w3 w hT h
    · exact walk5s a b ha hb a3 w3 w hT h

set_option maxRecDepth 100000 in
theorem contract (H : Type) (enc : TypeId × Value → H) (W : World) (base : Nat) (args : Array Value) (ds gs : List (DataW H)) (before : List MemPlace)
    (hval : ∀ (j : Nat) t v, Tryz.f11.params[j]? = some t → args[j]? = some v → Value.okWide Tryz.prog W .any base t v)
    (hW : DataW.Whole enc Tryz.prog Tryz.f11.params.toList Rows.fieldCasesSpec.vars false W args.toList ds gs before) (hL : laidMetH Tryz.prog Rows.fieldCasesRow.laid W) (hS : W.ShapedOpen Tryz.prog) :
    Calls Tryz.prog 11 args W fun e W' => ∃ v, e = .returned v ∧ Rows.fieldCasesSpec.post enc Tryz.prog Tryz.f11 false true false false W args v W' := by
  have hT : Tabs W := FRow.tabs_of hL hS
  have hW' := hW
  obtain ⟨p, q, hA0, hV, rfl, hfz, hnd⟩ := hW
  have hA : DataW.TrodAll enc Tryz.prog W 0 (fun _ => true) true Tryz.f11.params.toList args.toList ds p := hA0
  rw [Tryz.params11] at hA hval
  obtain ⟨v0, vs0, d0, ds0, p0, q0, hargs, rfl, rfl, h0, r0⟩ := trodAll_cons hA
  obtain ⟨v1, vs1, d1, ds1, p1, q1, rfl, rfl, rfl, h1, r1⟩ := trodAll_cons r0
  obtain ⟨v2, vs2, d2, ds2, p2, q2, rfl, rfl, rfl, h2, r2⟩ := trodAll_cons r1
  obtain ⟨v3, vs3, d3, ds3, p3, q3, rfl, rfl, rfl, h3, r3⟩ := trodAll_cons r2
  obtain ⟨rfl, rfl, rfl⟩ := trodAll_nil r3
  obtain rfl : args = #[v0, v1, v2, v3] := by cases args; simp_all
  obtain ⟨rfl, rfl⟩ := trodVars_none hV
  obtain ⟨a0, rfl, rfl, rfl⟩ := open_bool Tryz.underlying4 (hval 0 4 v0 rfl rfl) h0
  obtain ⟨a1, rfl, rfl, rfl, w1⟩ := open_int Tryz.underlying5 (hval 1 5 v1 rfl rfl) h1
  obtain ⟨a2, rfl, rfl, rfl, w2⟩ := open_int Tryz.underlying5 (hval 2 5 v2 rfl rfl) h2
  obtain ⟨a3, rfl, rfl, rfl, w3⟩ := open_int Tryz.underlying64 (hval 3 64 v3 rfl rfl) h3
  clear hA0
  simp only [List.append_nil] at hW'
  refine (walk a0 a1 a2 a3 w1 w2 w3 W hT ).mono fun e W' ⟨he, hb⟩ => ?_
  subst he
  exact ⟨_, rfl, _, _, _, [], [], [], hW', trodAll_cons_mk (shut_bool Tryz.underlying4 _) trodAll_mk0, (trodAll_cons_mk (shut_bool Tryz.underlying4 _) (trodAll_cons_mk (shut_int Tryz.underlying5 w1) (trodAll_cons_mk (shut_int Tryz.underlying5 w2) (trodAll_cons_mk (shut_int Tryz.underlying64 w3) trodAll_mk0)))), rfl, hb.frame _, fun h => by cases h⟩

set_option maxRecDepth 100000 in
theorem lifted (os : Os) (started : os.Started) (H : Type) (enc : TypeId × Value → H) (F : Stop.Interp) :
    ReturnsInHanded {} Tryz.checked os 11 .any ((OpenSpec.ofChange Rows.fieldCasesSpec).preRow enc Tryz.prog Tryz.f11 Rows.fieldCasesRow.domain false Rows.fieldCasesRow.laid) (((OpenSpec.ofChange Rows.fieldCasesSpec).at F).post enc Tryz.prog Tryz.f11 false true false false) := by
  refine returnsInHanded_of_row (C := Tryz.checked) (s := OpenSpec.ofChange Rows.fieldCasesSpec) FRow.own started (by kernel_rfl) Tryz.func11
    (ChangeSpec.witness_shaped (enc := enc) (C := Tryz.checked) (os := os) (X := fun w _ => laidMetH Tryz.prog FRow.laidL w) false (World.laidAll Tryz.prog os FRow.laidL) #[.bool false, .int .u8 0, .int .u8 0, .int .u16 0] 8 (World.laidAll_os _ _ _)
      (FRow.wit_shaped os _) (by kernel_rfl) (by kernel_rfl) (by kernel_rfl) (FRow.wit_laid os _)) ?_
  intro W base args ds gs before hval hW _ _ _ hL hS _
  exact contract H enc W base args ds gs before hval hW hL hS

theorem said : Rows.FieldCasesSaid :=
  OpenClaim.holds_of_cond 11 Tryz.f11 rfl rfl rfl rfl rfl rfl rfl ⟨rfl, rfl, rfl, rfl, rfl⟩ rfl rfl rfl rfl rfl (by kernel_rfl) Tryz.func11 (by kernel_rfl)
    (of_decide_eq_true (by kernel_rfl)) (by unfold Func.isWrapper; first | (rw [if_pos (by decide +kernel)]; kernel_rfl) | (rw [if_neg (by decide +kernel)]; exact ⟨rfl, rfl⟩))
    (fun os started H enc _ F => by rw [OpenClaim.pre_eq_preRow]; exact lifted os started H enc F)

theorem plain (f : FuncId) (fn : Func) (hf : Tryz.pinned.checked.prog.funcNamed "wakeman/wakemanlaw06.FieldCases" = some f) (hfn : Tryz.pinned.checked.prog.funcs[f]? = some fn) :
    true = Tryz.pinned.checked.prog.looks [] ∧ ∀ (j : Nat) t, fn.params[j]? = some t → Tryz.pinned.checked.prog.wantsStandIn t = false := by
  obtain rfl : f = 11 := Option.some.inj ((show Tryz.prog.funcNamed "wakeman/wakemanlaw06.FieldCases" = some 11 by kernel_rfl).symm.trans hf) |>.symm
  obtain rfl : fn = Tryz.f11 := (Option.some.inj (Tryz.func11.symm.trans hfn)).symm
  refine ⟨by kernel_rfl, fun j t ht => ?_⟩
  rw [Tryz.params11] at ht
  have hm : t ∈ [4, 5, 5, 64] := by simpa using Array.mem_of_getElem? ht
  have hall : ([4, 5, 5, 64].all fun u => !Tryz.prog.wantsStandIn u) = true := by kernel_rfl
  exact (show Tryz.prog.wantsStandIn t = false by simpa using List.all_eq_true.1 hall t hm)

theorem card : Rows.FieldCasesCardSaid :=
  Claim7.holds_tied_plain_at .later [] _ _ _ _ said (fun _ h => by cases h) (by kernel_rfl) (fun _ h => by cases h) fieldCases_row_tie rfl ⟨rfl, rfl⟩ (by kernel_rfl) rfl plain (by kernel_rfl)
#print axioms card
end Go.Proofs.YtfhcnndleaoobaaGreatDoor.fieldCases
