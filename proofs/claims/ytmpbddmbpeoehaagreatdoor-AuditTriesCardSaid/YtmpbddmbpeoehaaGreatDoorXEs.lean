/-
  Contracts, by their trees; AuditTries: the walk, the row, the card.
-/
import Derived.Test.YtmpbddmbpeoehaaGreatDoorXEc
import Derived.Test.YtmpbddmbpeoehaaGreatDoorXP
import Derived.Test.YtmpbddmbpeoehaaGreatDoorXN
import Derived.Test.YtmpbddmbpeoehaaGreatDoorXQ
import Derived.Test.YtmpbddmbpeoehaaGreatDoorXR
set_option linter.unusedVariables false
set_option linter.unusedSimpArgs false
set_option linter.unusedVariables false
set_option linter.unusedSimpArgs false
namespace Go.Proofs.YtmpbddmbpeoehaaGreatDoor.Vc
open As
theorem rem_nn {k : IntKind} {x y : Int} (h0 : 0 ≤ x) : arithV BinOp.rem k x y = x % y := by
  show x.tmod y = x % y
  exact Int.tmod_eq_emod_of_nonneg h0
set_option maxRecDepth 20000 in
theorem jobT_ok {r : Ret} (h : TryR r) : JobOk (jobT r) := by
  obtain ⟨⟨h1, h2⟩, ⟨h3, h4⟩, ⟨h5, h6⟩, ⟨h7, h8⟩⟩ := h
  have k0 : K.i64 0 := by constructor <;> decide
  have u0 : Ku 0 := by constructor <;> decide
  constructor
  case name => show 1 ≤ _; omega
  case skip => rfl
  case k => exact k64 (by show _ ≤ (2 : Int); omega) (by show (2 : Int) ≤ _; omega)
  case s => exact k64 (by show _ ≤ (1005 : Int); omega) (by show (1005 : Int) ≤ _; omega)
  case t => exact k64 (by show _ ≤ (5 : Int); omega) (by show (5 : Int) ≤ _; omega)
  case u => exact k64 (by show _ ≤ (1 : Int); omega) (by show (1 : Int) ≤ _; omega)
  case cap => exact k64 (by show _ ≤ (1 : Int); omega) (by show (1 : Int) ≤ _; omega)
  case dead => exact k64 (by show _ ≤ (100000 : Int); omega) (by show (100000 : Int) ≤ _; omega)
  case rm => exact k64 (by show _ ≤ r.max_; omega) (by show r.max_ ≤ _; omega)
  case rb => exact k64 (by show _ ≤ r.base; omega) (by show r.base ≤ _; omega)
  case rc => exact k64 (by show _ ≤ r.cap; omega) (by show r.cap ≤ _; omega)
  case rj => exact k64 (by show _ ≤ r.jit; omega) (by show r.jit ≤ _; omega)
  all_goals first | exact k0 | exact u0
set_option maxRecDepth 20000 in
theorem tE_ok {k A w : Int} (hk : 0 ≤ k ∧ k ≤ 100) (hA : 0 ≤ A ∧ A ≤ 100000) (hw : 0 ≤ w ∧ w ≤ 100000) : EvOk (tE1 k A) ∧ EvOk (tE2 k A) ∧ EvOk (tE3 k A w) := by
  have k0 : K.i64 0 := by constructor <;> decide
  have k1 : ∀ z : Int, 0 ≤ z → z ≤ 100001 → K.i64 z := fun z h1 h2 => k64 (by omega) (by omega)
  exact ⟨⟨k1 1 (by omega) (by omega), k1 A (by omega) (by omega), k0, k1 1005 (by omega) (by omega), k1 k (by omega) (by omega), k1 k (by omega) (by omega), k0, k0⟩, ⟨k1 3 (by omega) (by omega), k1 A (by omega) (by omega), k0, k1 1005 (by omega) (by omega), k1 k (by omega) (by omega), k1 k (by omega) (by omega), k0, k0⟩, ⟨k1 4 (by omega) (by omega), k1 A (by omega) (by omega), k0, k1 1005 (by omega) (by omega), k1 (k + 1) (by omega) (by omega), k0, k0, k1 w (by omega) (by omega)⟩⟩
/-- What holds at the head of the loop. -/
def TryHead (seed : Int) (r : Ret) (p0 : Option Addr) (n0 : Nat) (p1 : Option Addr) (n1 : Nat) (a k : Int) (r0 r1 : List Value) : Prop :=
  ∃ l W, TryInv seed r k a l W ∧ (1 ≤ k ∧ k ≤ r.max_ + 3) ∧ r0 = evRow l ∧ n1 = l.length ∧ (p1 = none → r0 = []) ∧ r1 = flRow 8 W ∧ n0 = W.length ∧ (p0 = none → r1 = []) ∧ (∀ x ∈ l, EvOk x)
theorem wlen {seed : Int} {r : Ret} {k a : Int} {l : List Ev} {W : List Nat} (h : TryInv seed r k a l W) : W.length ≤ l.length := by
  rw [← h.mks]; exact idx_marks_len _ _ _
def lTry_pre (x0 x1 x2 x3 x4 x5 : Int) (m : Mem) : Prop := Globs m glSp ∧ Globs m glMx
def lTry_post (x0 x1 x2 x3 x4 x5 : Int) (m : Mem) (b : Bool) : Prop := b = true
def lTry : Sp := { args := [.i .u8, .i .u8, .i .u8, .i .u8, .i .u64, .i .u8], grp := [none, none, none, none, none, none], res := [.b], rgrp := [none], fn := 4, spec := fun a0 a1 a2 a3 a4 a5 => (lTry_pre a0 a1 a2 a3 a4 a5, lTry_post a0 a1 a2 a3 a4 a5) }
set_option maxRecDepth 20000 in
def lTry_VC : Prop := ∀ m : Mem, ∀ x0 : Int, IntKind.u8.min ≤ x0 → x0 ≤ IntKind.u8.max → ∀ x1 : Int, IntKind.u8.min ≤ x1 → x1 ≤ IntKind.u8.max → ∀ x2 : Int, IntKind.u8.min ≤ x2 → x2 ≤ IntKind.u8.max → ∀ x3 : Int, IntKind.u8.min ≤ x3 → x3 ≤ IntKind.u8.max → ∀ x4 : Int, IntKind.u64.min ≤ x4 → x4 ≤ IntKind.u64.max → ∀ x5 : Int, IntKind.u8.min ≤ x5 → x5 ≤ IntKind.u8.max → lTry_pre x0 x1 x2 x3 x4 x5 m →
 (arithP BinOp.rem 6 ∧ ∀ x6 : Int, x6 = arithV BinOp.rem IntKind.u8 x0 6 → (K.u8 x6) ∧ (arithP BinOp.rem 30 ∧ ∀ x7 : Int, x7 = arithV BinOp.rem IntKind.u8 x1 30 → (K.u8 x7) ∧ (arithP BinOp.rem 20 ∧ ∀ x8 : Int, x8 = arithV BinOp.rem IntKind.u8 x3 20 → (K.u8 x8) ∧ (arithP BinOp.rem (1 + x6) ∧ ∀ x9 : Int, x9 = arithV BinOp.rem IntKind.i64 x5 (1 + x6) → (K.i64 x9) ∧ ((2 + x9) ≤ 9223372036854775807 ∧ (∃ F1 : Option Addr → Nat → Nat → Option Addr → Nat → Nat → Bool → Int → Int → List Value → List Value → Prop × Nat, ((K.i64 1005) ∧ (K.i64 1) ∧ (F1 none 0 0 none 0 0 false 1005 1 [] []).1) ∧
 ∀ (p0 : Option Addr) (n0 c0 : Nat), n0 ≤ 9223372036854775807 → c0 ≤ 9223372036854775807 → ∀ (p1 : Option Addr) (n1 c1 : Nat), n1 ≤ 9223372036854775807 → c1 ≤ 9223372036854775807 → ∀ b0 : Bool, ∀ x14 : Int, IntKind.i64.min ≤ x14 → x14 ≤ IntKind.i64.max → ∀ x15 : Int, IntKind.i64.min ≤ x15 → x15 ≤ IntKind.i64.max → ∀ r0 : List Value, ∀ r1 : List Value, (F1 p0 n0 c0 p1 n1 c1 b0 x14 x15 r0 r1).1 →
 ((x15 ≤ ((1 + x6) + 2) →
 ((x15 = (2 + x9) →
 ((-9223372036854775808 : Int) ≤ (x14 - 1) ∧ ((2 * ((n0 : Int) + 1) * 16 ≤ 281474976710656) ∧ ∀ (p2 : Addr) (c2 : Nat) (r2 : List Value), r2 = r1 ++ [(Value.int IntKind.i64 8), (Value.int IntKind.i64 (n1 : Int))] → (n0 : Int) + 1 ≤ (c2 : Int) → c2 ≤ 9223372036854775807 → ((2 * ((n1 : Int) + 1) * 64 ≤ 281474976710656) ∧ ∀ (p3 : Addr) (c3 : Nat) (r3 : List Value), r3 = r0 ++ [(Value.int IntKind.i64 1), (Value.int IntKind.i64 (x14 - 1)), (Value.int IntKind.i64 0), (Value.int IntKind.i64 1005), (Value.int IntKind.i64 x15), (Value.int IntKind.i64 x15), (Value.int IntKind.i64 0), (Value.int IntKind.i64 0)] → (n1 : Int) + 1 ≤ (c3 : Int) → c3 ≤ 9223372036854775807 → ((2 * (((n1 : Int) + 1) + 1) * 64 ≤ 281474976710656) ∧ ∀ (p4 : Addr) (c4 : Nat) (r4 : List Value), r4 = r3 ++ [(Value.int IntKind.i64 3), (Value.int IntKind.i64 (x14 - 1)), (Value.int IntKind.i64 0), (Value.int IntKind.i64 1005), (Value.int IntKind.i64 x15), (Value.int IntKind.i64 x15), (Value.int IntKind.i64 0), (Value.int IntKind.i64 0)] → ((n1 : Int) + 1) + 1 ≤ (c4 : Int) → c4 ≤ 9223372036854775807 → (∀ x19 : Int, x19 = (bif false then max x15 ((1 + x6) + 1) else min x15 ((1 + x6) + 1)) → (K.i64 x19) ∧ ((-9223372036854775808 : Int) ≤ (x14 - 1) ∧ (rtN_pre (1 + x6) (1 + x7) ((1 + x7) + x2) x8 x4 ([97] : List UInt8) 1005 x19 (x14 - 1) m ∧ ∀ m2 : Mem, MemSub m m2 → ∀ x20 : Int, IntKind.i64.min ≤ x20 → x20 ≤ IntKind.i64.max → ∀ b1 : Bool, ∀ x21 : Int, IntKind.i64.min ≤ x21 → x21 ≤ IntKind.i64.max → rtN_post (1 + x6) (1 + x7) ((1 + x7) + x2) x8 x4 ([97] : List UInt8) 1005 x19 (x14 - 1) m2 x20 b1 x21 →
 ((x21 ≠ 0 →
 (lTry_post x0 x1 x2 x3 x4 x5 m2 false)) ∧
 (x21 = 0 →
 ((((b1 = true → x15 ≤ (1 + x6)) → (x15 ≤ (1 + x6) ∧ b1 = false)) →
 (lTry_post x0 x1 x2 x3 x4 x5 m2 false)) ∧
 (((b1 = true → x15 ≤ (1 + x6)) ∧ (x15 ≤ (1 + x6) → b1 = true)) →
 ((b1 = false →
 ((x15 + 1) ≤ 9223372036854775807 ∧ (((Int.toNat ((n0 : Int) + 1)) ≤ 9223372036854775807 ∧ c2 ≤ 9223372036854775807) ∧ ((Int.toNat (((n1 : Int) + 1) + 1)) ≤ 9223372036854775807 ∧ c4 ≤ 9223372036854775807) ∧ (IntKind.i64.min ≤ ((x14 - 1) + 1) ∧ ((x14 - 1) + 1) ≤ IntKind.i64.max) ∧ (IntKind.i64.min ≤ (x15 + 1) ∧ (x15 + 1) ≤ IntKind.i64.max) ∧ ((F1 ((some p2).map fun p => p.add 0) (Int.toNat ((n0 : Int) + 1)) c2 ((some p4).map fun p => p.add 0) (Int.toNat (((n1 : Int) + 1) + 1)) c4 b0 ((x14 - 1) + 1) (x15 + 1) r4 r2).1 ∧ (F1 ((some p2).map fun p => p.add 0) (Int.toNat ((n0 : Int) + 1)) c2 ((some p4).map fun p => p.add 0) (Int.toNat (((n1 : Int) + 1) + 1)) c4 b0 ((x14 - 1) + 1) (x15 + 1) r4 r2).2 < (F1 p0 n0 c0 p1 n1 c1 b0 x14 x15 r0 r1).2)))) ∧
 (b1 = true →
 ((x15 + 1) ≤ 9223372036854775807 ∧ ((x20 + 1) ≤ 9223372036854775807 ∧ ((2 * (((n0 : Int) + 1) + 1) * 16 ≤ 281474976710656) ∧ ∀ (p5 : Addr) (c5 : Nat) (r5 : List Value), r5 = r2 ++ [(Value.int IntKind.i64 8), (Value.int IntKind.i64 (((n1 : Int) + 1) + 1))] → ((n0 : Int) + 1) + 1 ≤ (c5 : Int) → c5 ≤ 9223372036854775807 → ((2 * ((((n1 : Int) + 1) + 1) + 1) * 64 ≤ 281474976710656) ∧ ∀ (p6 : Addr) (c6 : Nat) (r6 : List Value), r6 = r4 ++ [(Value.int IntKind.i64 4), (Value.int IntKind.i64 (x14 - 1)), (Value.int IntKind.i64 0), (Value.int IntKind.i64 1005), (Value.int IntKind.i64 (x15 + 1)), (Value.int IntKind.i64 0), (Value.int IntKind.i64 0), (Value.int IntKind.i64 (x20 + 1))] → (((n1 : Int) + 1) + 1) + 1 ≤ (c6 : Int) → c6 ≤ 9223372036854775807 → ((x15 + 1) ≤ 9223372036854775807 ∧ (((Int.toNat (((n0 : Int) + 1) + 1)) ≤ 9223372036854775807 ∧ c5 ≤ 9223372036854775807) ∧ ((Int.toNat ((((n1 : Int) + 1) + 1) + 1)) ≤ 9223372036854775807 ∧ c6 ≤ 9223372036854775807) ∧ (K.i64 x20) ∧ (IntKind.i64.min ≤ (x15 + 1) ∧ (x15 + 1) ≤ IntKind.i64.max) ∧ ((F1 ((some p5).map fun p => p.add 0) (Int.toNat (((n0 : Int) + 1) + 1)) c5 ((some p6).map fun p => p.add 0) (Int.toNat ((((n1 : Int) + 1) + 1) + 1)) c6 b0 x20 (x15 + 1) r6 r5).1 ∧ (F1 ((some p5).map fun p => p.add 0) (Int.toNat (((n0 : Int) + 1) + 1)) c5 ((some p6).map fun p => p.add 0) (Int.toNat ((((n1 : Int) + 1) + 1) + 1)) c6 b0 x20 (x15 + 1) r6 r5).2 < (F1 p0 n0 c0 p1 n1 c1 b0 x14 x15 r0 r1).2))))))))))))))))))))) ∧
 (x15 ≠ (2 + x9) →
 ((((1 + x6) + 1) < x15 →
 ((2 * ((n0 : Int) + 1) * 16 ≤ 281474976710656) ∧ ∀ (p2 : Addr) (c2 : Nat) (r2 : List Value), r2 = r1 ++ [(Value.int IntKind.i64 8), (Value.int IntKind.i64 (n1 : Int))] → (n0 : Int) + 1 ≤ (c2 : Int) → c2 ≤ 9223372036854775807 → ((2 * ((n1 : Int) + 1) * 64 ≤ 281474976710656) ∧ ∀ (p3 : Addr) (c3 : Nat) (r3 : List Value), r3 = r0 ++ [(Value.int IntKind.i64 1), (Value.int IntKind.i64 x14), (Value.int IntKind.i64 0), (Value.int IntKind.i64 1005), (Value.int IntKind.i64 x15), (Value.int IntKind.i64 x15), (Value.int IntKind.i64 0), (Value.int IntKind.i64 0)] → (n1 : Int) + 1 ≤ (c3 : Int) → c3 ≤ 9223372036854775807 → ((2 * (((n1 : Int) + 1) + 1) * 64 ≤ 281474976710656) ∧ ∀ (p4 : Addr) (c4 : Nat) (r4 : List Value), r4 = r3 ++ [(Value.int IntKind.i64 3), (Value.int IntKind.i64 x14), (Value.int IntKind.i64 0), (Value.int IntKind.i64 1005), (Value.int IntKind.i64 x15), (Value.int IntKind.i64 x15), (Value.int IntKind.i64 0), (Value.int IntKind.i64 0)] → ((n1 : Int) + 1) + 1 ≤ (c4 : Int) → c4 ≤ 9223372036854775807 → (rtN_pre (1 + x6) (1 + x7) ((1 + x7) + x2) x8 x4 ([97] : List UInt8) 1005 ((1 + x6) + 1) x14 m ∧ ∀ m2 : Mem, MemSub m m2 → ∀ x19 : Int, IntKind.i64.min ≤ x19 → x19 ≤ IntKind.i64.max → ∀ b1 : Bool, ∀ x20 : Int, IntKind.i64.min ≤ x20 → x20 ≤ IntKind.i64.max → rtN_post (1 + x6) (1 + x7) ((1 + x7) + x2) x8 x4 ([97] : List UInt8) 1005 ((1 + x6) + 1) x14 m2 x19 b1 x20 →
 ((x20 ≠ 0 →
 (lTry_post x0 x1 x2 x3 x4 x5 m2 false)) ∧
 (x20 = 0 →
 ((((b1 = true → x15 ≤ (1 + x6)) → (x15 ≤ (1 + x6) ∧ b1 = false)) →
 (lTry_post x0 x1 x2 x3 x4 x5 m2 false)) ∧
 (((b1 = true → x15 ≤ (1 + x6)) ∧ (x15 ≤ (1 + x6) → b1 = true)) →
 ((b1 = false →
 ((x14 + 1) ≤ 9223372036854775807 ∧ ((x15 + 1) ≤ 9223372036854775807 ∧ (((Int.toNat ((n0 : Int) + 1)) ≤ 9223372036854775807 ∧ c2 ≤ 9223372036854775807) ∧ ((Int.toNat (((n1 : Int) + 1) + 1)) ≤ 9223372036854775807 ∧ c4 ≤ 9223372036854775807) ∧ (IntKind.i64.min ≤ (x14 + 1) ∧ (x14 + 1) ≤ IntKind.i64.max) ∧ (IntKind.i64.min ≤ (x15 + 1) ∧ (x15 + 1) ≤ IntKind.i64.max) ∧ ((F1 ((some p2).map fun p => p.add 0) (Int.toNat ((n0 : Int) + 1)) c2 ((some p4).map fun p => p.add 0) (Int.toNat (((n1 : Int) + 1) + 1)) c4 b0 (x14 + 1) (x15 + 1) r4 r2).1 ∧ (F1 ((some p2).map fun p => p.add 0) (Int.toNat ((n0 : Int) + 1)) c2 ((some p4).map fun p => p.add 0) (Int.toNat (((n1 : Int) + 1) + 1)) c4 b0 (x14 + 1) (x15 + 1) r4 r2).2 < (F1 p0 n0 c0 p1 n1 c1 b0 x14 x15 r0 r1).2))))) ∧
 (b1 = true →
 ((x15 + 1) ≤ 9223372036854775807 ∧ ((2 * ((((n1 : Int) + 1) + 1) + 1) * 64 ≤ 281474976710656) ∧ ∀ (p5 : Addr) (c5 : Nat) (r5 : List Value), r5 = r4 ++ [(Value.int IntKind.i64 4), (Value.int IntKind.i64 x14), (Value.int IntKind.i64 0), (Value.int IntKind.i64 1005), (Value.int IntKind.i64 (x15 + 1)), (Value.int IntKind.i64 0), (Value.int IntKind.i64 0), (Value.int IntKind.i64 x19)] → (((n1 : Int) + 1) + 1) + 1 ≤ (c5 : Int) → c5 ≤ 9223372036854775807 → ((x15 + 1) ≤ 9223372036854775807 ∧ (((Int.toNat ((n0 : Int) + 1)) ≤ 9223372036854775807 ∧ c2 ≤ 9223372036854775807) ∧ ((Int.toNat ((((n1 : Int) + 1) + 1) + 1)) ≤ 9223372036854775807 ∧ c5 ≤ 9223372036854775807) ∧ (K.i64 x19) ∧ (IntKind.i64.min ≤ (x15 + 1) ∧ (x15 + 1) ≤ IntKind.i64.max) ∧ ((F1 ((some p2).map fun p => p.add 0) (Int.toNat ((n0 : Int) + 1)) c2 ((some p5).map fun p => p.add 0) (Int.toNat ((((n1 : Int) + 1) + 1) + 1)) c5 b0 x19 (x15 + 1) r5 r2).1 ∧ (F1 ((some p2).map fun p => p.add 0) (Int.toNat ((n0 : Int) + 1)) c2 ((some p5).map fun p => p.add 0) (Int.toNat ((((n1 : Int) + 1) + 1) + 1)) c5 b0 x19 (x15 + 1) r5 r2).2 < (F1 p0 n0 c0 p1 n1 c1 b0 x14 x15 r0 r1).2)))))))))))))))) ∧
 (x15 ≤ ((1 + x6) + 1) →
 ((2 * ((n1 : Int) + 1) * 64 ≤ 281474976710656) ∧ ∀ (p2 : Addr) (c2 : Nat) (r2 : List Value), r2 = r0 ++ [(Value.int IntKind.i64 1), (Value.int IntKind.i64 x14), (Value.int IntKind.i64 0), (Value.int IntKind.i64 1005), (Value.int IntKind.i64 x15), (Value.int IntKind.i64 x15), (Value.int IntKind.i64 0), (Value.int IntKind.i64 0)] → (n1 : Int) + 1 ≤ (c2 : Int) → c2 ≤ 9223372036854775807 → ((2 * (((n1 : Int) + 1) + 1) * 64 ≤ 281474976710656) ∧ ∀ (p3 : Addr) (c3 : Nat) (r3 : List Value), r3 = r2 ++ [(Value.int IntKind.i64 3), (Value.int IntKind.i64 x14), (Value.int IntKind.i64 0), (Value.int IntKind.i64 1005), (Value.int IntKind.i64 x15), (Value.int IntKind.i64 x15), (Value.int IntKind.i64 0), (Value.int IntKind.i64 0)] → ((n1 : Int) + 1) + 1 ≤ (c3 : Int) → c3 ≤ 9223372036854775807 → (rtN_pre (1 + x6) (1 + x7) ((1 + x7) + x2) x8 x4 ([97] : List UInt8) 1005 x15 x14 m ∧ ∀ m2 : Mem, MemSub m m2 → ∀ x18 : Int, IntKind.i64.min ≤ x18 → x18 ≤ IntKind.i64.max → ∀ b1 : Bool, ∀ x19 : Int, IntKind.i64.min ≤ x19 → x19 ≤ IntKind.i64.max → rtN_post (1 + x6) (1 + x7) ((1 + x7) + x2) x8 x4 ([97] : List UInt8) 1005 x15 x14 m2 x18 b1 x19 →
 ((x19 ≠ 0 →
 (lTry_post x0 x1 x2 x3 x4 x5 m2 false)) ∧
 (x19 = 0 →
 ((((b1 = true → x15 ≤ (1 + x6)) → (x15 ≤ (1 + x6) ∧ b1 = false)) →
 (lTry_post x0 x1 x2 x3 x4 x5 m2 false)) ∧
 (((b1 = true → x15 ≤ (1 + x6)) ∧ (x15 ≤ (1 + x6) → b1 = true)) →
 ((b1 = false →
 ((x14 + 1) ≤ 9223372036854775807 ∧ ((x15 + 1) ≤ 9223372036854775807 ∧ ((n0 ≤ 9223372036854775807 ∧ c0 ≤ 9223372036854775807) ∧ ((Int.toNat (((n1 : Int) + 1) + 1)) ≤ 9223372036854775807 ∧ c3 ≤ 9223372036854775807) ∧ (IntKind.i64.min ≤ (x14 + 1) ∧ (x14 + 1) ≤ IntKind.i64.max) ∧ (IntKind.i64.min ≤ (x15 + 1) ∧ (x15 + 1) ≤ IntKind.i64.max) ∧ ((F1 (p0.map fun p => p.add 0) n0 c0 ((some p3).map fun p => p.add 0) (Int.toNat (((n1 : Int) + 1) + 1)) c3 b0 (x14 + 1) (x15 + 1) r3 r1).1 ∧ (F1 (p0.map fun p => p.add 0) n0 c0 ((some p3).map fun p => p.add 0) (Int.toNat (((n1 : Int) + 1) + 1)) c3 b0 (x14 + 1) (x15 + 1) r3 r1).2 < (F1 p0 n0 c0 p1 n1 c1 b0 x14 x15 r0 r1).2))))) ∧
 (b1 = true →
 ((x15 + 1) ≤ 9223372036854775807 ∧ ((2 * ((((n1 : Int) + 1) + 1) + 1) * 64 ≤ 281474976710656) ∧ ∀ (p4 : Addr) (c4 : Nat) (r4 : List Value), r4 = r3 ++ [(Value.int IntKind.i64 4), (Value.int IntKind.i64 x14), (Value.int IntKind.i64 0), (Value.int IntKind.i64 1005), (Value.int IntKind.i64 (x15 + 1)), (Value.int IntKind.i64 0), (Value.int IntKind.i64 0), (Value.int IntKind.i64 x18)] → (((n1 : Int) + 1) + 1) + 1 ≤ (c4 : Int) → c4 ≤ 9223372036854775807 → ((x15 + 1) ≤ 9223372036854775807 ∧ ((n0 ≤ 9223372036854775807 ∧ c0 ≤ 9223372036854775807) ∧ ((Int.toNat ((((n1 : Int) + 1) + 1) + 1)) ≤ 9223372036854775807 ∧ c4 ≤ 9223372036854775807) ∧ (K.i64 x18) ∧ (IntKind.i64.min ≤ (x15 + 1) ∧ (x15 + 1) ≤ IntKind.i64.max) ∧ ((F1 (p0.map fun p => p.add 0) n0 c0 ((some p4).map fun p => p.add 0) (Int.toNat ((((n1 : Int) + 1) + 1) + 1)) c4 b0 x18 (x15 + 1) r4 r1).1 ∧ (F1 (p0.map fun p => p.add 0) n0 c0 ((some p4).map fun p => p.add 0) (Int.toNat ((((n1 : Int) + 1) + 1) + 1)) c4 b0 x18 (x15 + 1) r4 r1).2 < (F1 p0 n0 c0 p1 n1 c1 b0 x14 x15 r0 r1).2))))))))))))))))))) ∧
 (((1 + x6) + 2) < x15 →
 (∀ (p2 : Addr) (m2 : Mem), MemSub m m2 → RowAt m2 (some p2) [(Value.string ⟨List.toArray ([97] : List UInt8)⟩), (Value.int IntKind.i64 2), (Value.int IntKind.u64 0), (Value.int IntKind.u64 0), (Value.int IntKind.u64 0), (Value.int IntKind.u64 0), (Value.int IntKind.u64 0), (Value.int IntKind.u64 0), (Value.bool false), (Value.bool false), (Value.int IntKind.i64 0), (Value.int IntKind.i64 1005), (Value.int IntKind.i64 5), (Value.int IntKind.i64 1), (Value.slice none 0 0), (Value.int IntKind.i64 1), (Value.int IntKind.i64 0), (Value.int IntKind.i64 0), (Value.int IntKind.i64 100000), (Value.int IntKind.i64 0), (Value.int IntKind.i64 0), (Value.int IntKind.i64 0), (Value.int IntKind.i64 0), (Value.int IntKind.i64 0), (Value.int IntKind.i64 0), (Value.int IntKind.i64 0), (Value.int IntKind.i64 (1 + x6)), (Value.int IntKind.i64 (1 + x7)), (Value.int IntKind.i64 ((1 + x7) + x2)), (Value.int IntKind.i64 x8)] → (∀ m3 : Mem, MemSub m2 m3 → RowAt m3 p1 r0 → ((1 ≤ 9223372036854775807 ∧ 1 ≤ 9223372036854775807) ∧ (n1 ≤ 9223372036854775807 ∧ c1 ≤ 9223372036854775807) ∧ aRet_pre 1 10 10 60 x4 0 0 ((some p2).map fun p => p.add 0) 1 1 (p1.map fun p => p.add 0) n1 c1 m3 ∧ ∀ m4 : Mem, MemSub m3 m4 → ∀ (p3 : Option Addr) (n3 c3 : Nat), n3 ≤ 9223372036854775807 → c3 ≤ 9223372036854775807 → ∀ x18 : Int, IntKind.i64.min ≤ x18 → x18 ≤ IntKind.i64.max → aRet_post 1 10 10 60 x4 0 0 ((some p2).map fun p => p.add 0) 1 1 (p1.map fun p => p.add 0) n1 c1 m4 p3 n3 c3 x18 →
 ((x18 = 0 →
 (∀ m5 : Mem, MemSub m4 m5 → RowAt m5 p0 r1 → ((n3 ≤ 9223372036854775807 ∧ c3 ≤ 9223372036854775807) ∧ (n0 ≤ 9223372036854775807 ∧ c0 ≤ 9223372036854775807) ∧ eqF_pre (p3.map fun p => p.add 0) n3 c3 (p0.map fun p => p.add 0) n0 c0 m5 ∧ ∀ m6 : Mem, MemSub m5 m6 → ∀ b1 : Bool, eqF_post (p3.map fun p => p.add 0) n3 c3 (p0.map fun p => p.add 0) n0 c0 m6 b1 →
 ((b1 = true →
 (wrk_pre  m6 ∧ ∀ m7 : Mem, MemSub m6 m7 → ∀ b2 : Bool, wrk_post  m7 b2 →
 (lTry_post x0 x1 x2 x3 x4 x5 m7 b2))) ∧
 (b1 = false →
 (lTry_post x0 x1 x2 x3 x4 x5 m6 false)))))) ∧
 (x18 ≠ 0 →
 (lTry_post x0 x1 x2 x3 x4 x5 m4 false))))))))))))))
set_option maxRecDepth 20000 in
set_option maxHeartbeats 4000000 in
theorem lTry_vc : lTry_VC := by
  intro m x0 a0 b0 x1 a1 b1 x2 a2 b2 x3 a3 b3 x4 _ _ x5 a5 b5 ⟨gsp, gmx⟩
  have a0 : (0 : Int) ≤ x0 := a0
  have a1 : (0 : Int) ≤ x1 := a1
  have a2 : (0 : Int) ≤ x2 := a2
  have b2 : x2 ≤ (255 : Int) := b2
  have a3 : (0 : Int) ≤ x3 := a3
  have a5 : (0 : Int) ≤ x5 := a5
  refine ⟨(by show (6 : Int) ≠ 0; decide), fun x6 e6 => ?_⟩
  rw [rem_nn a0] at e6
  refine ⟨⟨by show (0 : Int) ≤ x6; omega, by show x6 ≤ 255; omega⟩, (by show (30 : Int) ≠ 0; decide), fun x7 e7 => ?_⟩
  rw [rem_nn a1] at e7
  refine ⟨⟨by show (0 : Int) ≤ x7; omega, by show x7 ≤ 255; omega⟩, (by show (20 : Int) ≠ 0; decide), fun x8 e8 => ?_⟩
  rw [rem_nn a3] at e8
  refine ⟨⟨by show (0 : Int) ≤ x8; omega, by show x8 ≤ 255; omega⟩, (by show (1 + x6 : Int) ≠ 0; omega), fun x9 e9 => ?_⟩
  rw [rem_nn a5] at e9
  have h9a : 0 ≤ x9 := by rw [e9]; exact Int.emod_nonneg _ (by omega)
  have h9b : x9 < 1 + x6 := by rw [e9]; exact Int.emod_lt_of_pos _ (by omega)
  obtain ⟨r, hrd⟩ : ∃ r : Ret, r = ⟨1 + x6, 1 + x7, (1 + x7) + x2, x8⟩ := ⟨_, rfl⟩
  have rm : r.max_ = 1 + x6 := by rw [hrd]
  have rb : r.base = 1 + x7 := by rw [hrd]
  have rc : r.cap = (1 + x7) + x2 := by rw [hrd]
  have rj : r.jit = x8 := by rw [hrd]
  have hr : TryR r := ⟨by omega, by omega, by omega, by omega⟩
  have hbad : 2 ≤ 2 + x9 ∧ 2 + x9 ≤ r.max_ + 1 := by omega
  have kz : K.i64 0 := by constructor <;> decide
  have nm : ([97] : List UInt8).length ≤ 9223372036854775807 := by decide
  refine ⟨k64 (by omega) (by omega), by omega, ?_⟩
  refine ⟨fun p0 n0 c0 p1 n1 c1 bb a k r0 r1 => (TryHead x4 r p0 n0 p1 n1 a k r0 r1, (r.max_ + 4 - k).toNat), ⟨by constructor <;> decide, by constructor <;> decide, [], [], TryInv.start x4 r, by omega, rfl, rfl, fun _ => rfl, rfl, rfl, fun _ => rfl, fun x hx => by cases hx⟩, ?_⟩
  rintro p0 n0 c0 hn0 hc0 p1 n1 c1 hn1 hc1 bb a q1 q2 k q3 q4 r0 r1 ⟨l, W, inv, ⟨hk1, hk3⟩, hr0, hn1e, hp1, hr1, hn0e, hp0, hok⟩
  have hwl := wlen inv
  have hll := inv.len
  have hat := inv.at_
  obtain ⟨w1, w2⟩ := tryW_rng hr x4 k
  -- the two events of a round, with or without the third
  have step : ∀ (A : Int), A = (if k = 2 + x9 then a - 1 else a) → k ≤ r.max_ + 2 → (1005 ≤ A ∧ A ≤ a) ∧
      (∀ (pA : Option Addr) (nA : Nat) (pB : Addr) (rA rB : List Value), r.max_ < k → rB = (r0 ++ evCells (tE1 k A)) ++ evCells (tE2 k A) → rA = flRow 8 (W ++ (if k = 2 + x9 ∨ r.max_ + 1 < k then [l.length] else [])) → nA = (W ++ (if k = 2 + x9 ∨ r.max_ + 1 < k then [l.length] else [])).length → (pA = none → rA = []) →
        (TryHead x4 r pA nA ((some pB).map fun p => p.add 0) (Int.toNat (((n1 : Int) + 1) + 1)) (A + 1) (k + 1) rB rA)) ∧
      (∀ (pA : Option Addr) (nA : Nat) (pB : Addr) (rA rB : List Value) (z : Int), k ≤ r.max_ → z = A + tryW x4 r k → rB = ((r0 ++ evCells (tE1 k A)) ++ evCells (tE2 k A)) ++ evCells (tE3 k A (if k = 2 + x9 then z + 1 else z)) → rA = flRow 8 (W ++ (if k = 2 + x9 ∨ r.max_ + 1 < k then [l.length] else []) ++ (if k = 2 + x9 then [l.length + 2] else [])) → nA = (W ++ (if k = 2 + x9 ∨ r.max_ + 1 < k then [l.length] else []) ++ (if k = 2 + x9 then [l.length + 2] else [])).length → (pA = none → rA = []) →
        (TryHead x4 r pA nA ((some pB).map fun p => p.add 0) (Int.toNat ((((n1 : Int) + 1) + 1) + 1)) z (k + 1) rB rA)) := by
    intro A hA hk2
    have htwo := inv.two hr hbad ⟨hk1, hk2⟩ hA
    obtain ⟨hAr, _⟩ := htwo
    refine ⟨hAr, fun pA nA pB rA rB hm hrB hrA hnA hpA => ?_, fun pA nA pB rA rB z hm hz hrB hrA hnA hpA => ?_⟩
    · obtain ⟨o1, o2, _⟩ := tE_ok (k := k) (A := A) (w := 0) (by omega) (by omega) (by omega)
      refine ⟨_, _, inv.end_ hr hbad ⟨hk1, hk2⟩ hA hm, by omega, ?_, ?_, (fun h => by cases h), hrA, hnA, hpA, fun x hx => ?_⟩
      · rw [hrB, evRow_app, evRow_app, hr0]
      · rw [hn1e]; simp; omega
      · simp only [List.mem_append, List.mem_singleton] at hx
        rcases hx with (hx | rfl) | rfl
        · exact hok x hx
        · exact o1
        · exact o2
    · subst hz
      obtain ⟨w, hw⟩ : ∃ w : Int, w = if k = 2 + x9 then A + tryW x4 r k + 1 else A + tryW x4 r k := ⟨_, rfl⟩
      have hwr : 0 ≤ w ∧ w ≤ 100000 := by
        by_cases e : k = 2 + x9
        · rw [if_pos e] at hw; omega
        · rw [if_neg e] at hw; omega
      obtain ⟨o1, o2, o3⟩ := tE_ok (k := k) (A := A) (w := w) (by omega) (by omega) hwr
      refine ⟨_, _, inv.next hr hbad ⟨hk1, hk2⟩ hA hm hw, by omega, ?_, ?_, (fun h => by cases h), hrA, hnA, hpA, fun x hx => ?_⟩
      · rw [hrB, evRow_app, evRow_app, evRow_app, hr0, hw]
      · rw [hn1e]; simp; omega
      · simp only [List.mem_append, List.mem_singleton] at hx
        rcases hx with ((hx | rfl) | rfl) | rfl
        · exact hok x hx
        · exact o1
        · exact o2
        · exact o3
  refine ⟨fun hle => ⟨fun hkb => ?_, fun hkb => ⟨fun hbig => ?_, fun hsm => ?_⟩⟩, fun hgt => ?_⟩
  · -- the early one
    obtain ⟨⟨hA1, hA2⟩, hend, hnext⟩ := step (a - 1) (by rw [if_pos hkb]) (by omega)
    have hfl : (if k = 2 + x9 ∨ r.max_ + 1 < k then [l.length] else []) = [l.length] := if_pos (.inl hkb)
    rw [hfl] at hend hnext
    rw [if_pos hkb] at hnext
    refine ⟨by omega, by omega, fun p2 c2 r2 hr2 _ hc2 => ⟨by omega, fun p3 c3 r3 hr3 _ hc3 => ⟨by omega, fun p4 c4 r4 hr4 _ hc4 => ?_⟩⟩⟩
    intro x19 e19
    have e19 : x19 = min k ((1 + x6) + 1) := e19
    have e19 : x19 = k := by omega
    subst e19
    refine ⟨k64 (by omega) (by omega), by omega, ⟨gmx, nm⟩, fun m2 hm2 z z1 z2 b1 e _ _ hN => ?_⟩
    have hN : (z, b1, e) = nxt ⟨1 + x6, 1 + x7, (1 + x7) + x2, x8⟩ x4 [97] 1005 x19 (a - 1) := hN
    rw [← hrd] at hN
    have hrow : r4 = (r0 ++ evCells (tE1 x19 (a - 1))) ++ evCells (tE2 x19 (a - 1)) := by rw [hr4, hr3]; rfl
    have hW2 : r2 = flRow 8 (W ++ [l.length]) := by rw [hr2, hr1, flRow_app, hn1e]
    by_cases hm : x19 ≤ r.max_
    · rw [nxtT hr (by omega) ⟨hk1, hm⟩] at hN
      simp only [Prod.mk.injEq] at hN
      obtain ⟨rfl, rfl, rfl⟩ := hN
      refine ⟨fun h => (h rfl).elim, fun _ => ⟨fun h => ?_, fun _ => ⟨(fun h => by cases h), fun _ => ⟨by omega, by omega, by omega, fun p5 c5 r5 hr5 _ hc5 => ⟨by omega, fun p6 c6 r6 hr6 _ hc6 => ⟨by omega, ⟨by omega, hc5⟩, ⟨by omega, hc6⟩, k64 (by omega) (by omega), k64 (by omega) (by omega), hnext _ _ p6 r5 r6 _ hm rfl ?_ ?_ ?_ (fun h => by cases h), by first | omega | (simp only; omega)⟩⟩⟩⟩⟩⟩
      · obtain ⟨_, h⟩ := h (fun _ => by omega)
        cases h
      · rw [if_pos hkb, hr6, hrow]; rfl
      · have e : (((n1 : Int) + 1) + 1) = ((l.length + 2 : Nat) : Int) := by omega
        rw [hr5, hW2, e, ← flRow_app]
      · simp; omega
    · rw [nxtT_end hr (by omega) (by omega)] at hN
      simp only [Prod.mk.injEq] at hN
      obtain ⟨rfl, rfl, rfl⟩ := hN
      refine ⟨fun h => (h rfl).elim, fun _ => ⟨fun h => ?_, fun _ => ⟨fun _ => ⟨by omega, ⟨by omega, hc2⟩, ⟨by omega, hc4⟩, k64 (by omega) (by omega), k64 (by omega) (by omega), hend _ _ p4 r2 r4 (by omega) hrow hW2 (by simp; omega) (fun h => by cases h), by first | omega | (simp only; omega)⟩, (fun h => by cases h)⟩⟩⟩
      obtain ⟨h, _⟩ := h (fun h => by cases h)
      omega
  · -- one too many
    obtain ⟨⟨hA1, hA2⟩, hend, hnext⟩ := step a (by rw [if_neg hkb]) (by omega)
    have hfl : (if k = 2 + x9 ∨ r.max_ + 1 < k then [l.length] else []) = [l.length] := if_pos (.inr (by omega))
    rw [hfl] at hend
    refine ⟨by omega, fun p2 c2 r2 hr2 _ hc2 => ⟨by omega, fun p3 c3 r3 hr3 _ hc3 => ⟨by omega, fun p4 c4 r4 hr4 _ hc4 => ⟨⟨gmx, nm⟩, fun m2 hm2 z z1 z2 b1 e _ _ hN => ?_⟩⟩⟩⟩
    have hN : (z, b1, e) = nxt ⟨1 + x6, 1 + x7, (1 + x7) + x2, x8⟩ x4 [97] 1005 ((1 + x6) + 1) a := hN
    rw [← hrd] at hN
    have hrow : r4 = (r0 ++ evCells (tE1 k a)) ++ evCells (tE2 k a) := by rw [hr4, hr3]; rfl
    have hW2 : r2 = flRow 8 (W ++ [l.length]) := by rw [hr2, hr1, flRow_app, hn1e]
    rw [nxtT_end hr (by omega) (by omega)] at hN
    simp only [Prod.mk.injEq] at hN
    obtain ⟨rfl, rfl, rfl⟩ := hN
    refine ⟨fun h => (h rfl).elim, fun _ => ⟨fun h => ?_, fun _ => ⟨fun _ => ⟨by omega, by omega, ⟨by omega, hc2⟩, ⟨by omega, hc4⟩, k64 (by omega) (by omega), k64 (by omega) (by omega), hend _ _ p4 r2 r4 (by omega) hrow hW2 (by simp; omega) (fun h => by cases h), by first | omega | (simp only; omega)⟩, (fun h => by cases h)⟩⟩⟩
    obtain ⟨h, _⟩ := h (fun h => by cases h)
    omega
  · -- as they should be
    obtain ⟨⟨hA1, hA2⟩, hend, hnext⟩ := step a (by rw [if_neg hkb]) (by omega)
    have hfl : (if k = 2 + x9 ∨ r.max_ + 1 < k then [l.length] else []) = [] := if_neg (by omega)
    rw [hfl, List.append_nil] at hend hnext
    rw [if_neg hkb, List.append_nil] at hnext
    refine ⟨by omega, fun p2 c2 r2 hr2 _ hc2 => ⟨by omega, fun p3 c3 r3 hr3 _ hc3 => ⟨⟨gmx, nm⟩, fun m2 hm2 z z1 z2 b1 e _ _ hN => ?_⟩⟩⟩
    have hN : (z, b1, e) = nxt ⟨1 + x6, 1 + x7, (1 + x7) + x2, x8⟩ x4 [97] 1005 k a := hN
    rw [← hrd] at hN
    have hrow : r3 = (r0 ++ evCells (tE1 k a)) ++ evCells (tE2 k a) := by rw [hr3, hr2]; rfl
    by_cases hm : k ≤ r.max_
    · rw [nxtT hr (by omega) ⟨hk1, hm⟩] at hN
      simp only [Prod.mk.injEq] at hN
      obtain ⟨rfl, rfl, rfl⟩ := hN
      refine ⟨fun h => (h rfl).elim, fun _ => ⟨fun h => ?_, fun _ => ⟨(fun h => by cases h), fun _ => ⟨by omega, by omega, fun p4 c4 r4 hr4 _ hc4 => ⟨by omega, ⟨hn0, hc0⟩, ⟨by omega, hc4⟩, k64 (by omega) (by omega), k64 (by omega) (by omega), ?_, by first | omega | (simp only; omega)⟩⟩⟩⟩⟩
      · obtain ⟨_, h⟩ := h (fun _ => by omega)
        cases h
      · rw [map_add0]
        refine hnext _ _ p4 r1 r4 _ hm rfl ?_ hr1 hn0e hp0
        rw [if_neg hkb, hr4, hrow]; rfl
    · rw [nxtT_end hr (by omega) (by omega)] at hN
      simp only [Prod.mk.injEq] at hN
      obtain ⟨rfl, rfl, rfl⟩ := hN
      refine ⟨fun h => (h rfl).elim, fun _ => ⟨fun h => ?_, fun _ => ⟨fun _ => ⟨by omega, by omega, ⟨hn0, hc0⟩, ⟨by omega, hc3⟩, k64 (by omega) (by omega), k64 (by omega) (by omega), ?_, by first | omega | (simp only; omega)⟩, (fun h => by cases h)⟩⟩⟩
      · obtain ⟨h, _⟩ := h (fun h => by cases h)
        omega
      · rw [map_add0]
        exact hend _ _ p3 r1 r3 (by omega) hrow hr1 hn0e hp0
  · -- the end
    intro p2 m2 hm2 hrow m3 hm3 hrow3
    simp only [map_add0]
    have hro : RowAt m2 (some p2) (jobCells (jobT r)) := by rw [hrd]; exact hrow
    have hjob : JobsAt m2 (some p2) 1 [jobT r] := jobs_row1 hro (jobT_ok hr)
    have hev : EvsAt m3 p1 n1 l := by rw [hn1e]; exact evRow_at ⟨by rw [← hr0]; exact hrow3, fun h => by rw [← hr0]; exact hp1 h⟩ hok
    obtain ⟨f1, f2⟩ := inv.flaws hr
    refine ⟨⟨by omega, by omega⟩, ⟨hn1, hc1⟩, ⟨⟨⟨gsp.sub (hm2.trans hm3), gmx.sub (hm2.trans hm3)⟩, by omega⟩, [jobT r], l, hjob.sub hm3, hev⟩, fun m4 hm4 p3 n3 c3 hn3 hc3 z _ _ hp => ?_⟩
    obtain ⟨g1, g2, g3⟩ := hp [jobT r] l ((hjob.sub hm3).sub hm4) (hev.sub hm4)
    rw [f1] at g1
    rw [f2] at g2 g3
    refine ⟨fun _ m5 hm5 hrow5 => ⟨⟨hn3, hc3⟩, ⟨hn0, hc0⟩, ⟨8, W, by constructor <;> decide, g3, hn0e, g2.sub hm5, ⟨by rw [← hr1]; exact hrow5, fun h => by rw [← hr1]; exact hp0 h⟩, fun i hi => ?_⟩, fun m6 hm6 b1 hb1 => ⟨fun _ => ⟨gmx.sub (((hm2.trans hm3).trans hm4).trans (hm5.trans hm6)), fun m7 hm7 b2 hb2 => hb2⟩, fun hf => ?_⟩⟩, fun hne => (hne g1).elim⟩
    · rw [← f2] at hi
      have := auI_le hi
      omega
    · have hb1 : b1 = true := hb1
      rw [hf] at hb1; cases hb1
set_option maxRecDepth 20000 in
theorem lTry_ok : SpOk Tryz.prog lTry :=
  con_ok (sps_of [rtN, aRet, eqF, wrk] ⟨rtN_ok, ⟨aRet_ok, ⟨eqF_ok, ⟨wrk_ok, trivial⟩⟩⟩⟩ rfl) (tab_ok _ [⟨(173, 11), [], [], [(15, 57), (18, 39)], []⟩]) 1000 lTry _ rfl rfl (Eq.mp (show lTry_VC = _ by kernel_rfl) lTry_vc)
end Go.Proofs.YtmpbddmbpeoehaaGreatDoor.Vc
set_option linter.unusedVariables false
set_option linter.unusedSimpArgs false
set_option linter.unusedVariables false
set_option linter.unusedSimpArgs false
namespace Go.Proofs.YtmpbddmbpeoehaaGreatDoor.auditTries
open Go.ChangeShapes Go.WideShapes Go.ChangeAt Go.RowKit
-- AuditTries: the contract of the law, at a world.
open Vc in
theorem walk (a0 a1 a2 a3 a4 a5 : Int) (w0 : (Lit.int .u8 a0).wf = true) (w1 : (Lit.int .u8 a1).wf = true) (w2 : (Lit.int .u8 a2).wf = true) (w3 : (Lit.int .u8 a3).wf = true) (w4 : (Lit.int .u64 a4).wf = true) (w5 : (Lit.int .u8 a5).wf = true) (W : World) (hT : VRow.VTabs W) :
    Calls Tryz.prog 4 #[.int .u8 a0, .int .u8 a1, .int .u8 a2, .int .u8 a3, .int .u64 a4, .int .u8 a5] W fun e W' => e = .returned (.bool true) ∧ Below W.heap.size W W' := by
  have rng : ∀ {k : IntKind} {a : Int}, (Lit.int k a).wf = true → k.min ≤ a ∧ a ≤ k.max := fun h => by simpa [Lit.wf] using h
  have := lTry_ok (memW W) W [.int .u8 a0, .int .u8 a1, .int .u8 a2, .int .u8 a3, .int .u64 a4, .int .u8 a5] _ (fun _ _ h => h) rfl
    ⟨rfl, rng w0, rfl, rng w1, rfl, rng w2, rfl, rng w3, rfl, rng w4, rfl, rng w5, ⟨hT.sp, hT.mx⟩⟩
  refine this.mono fun e W' h => ?_
  obtain ⟨m', rs, rs', rfl, hp, hb, _, _, hr⟩ := h
  refine ⟨?_, hb⟩
  obtain ⟨_, _, _, _, _, _, _, _, _, _, _, _, hr⟩ := hr
  match rs, hp, hr with
  | [.bool b], hp, hr =>
    have hb : b = true := hr
    cases hp
    rw [hb]; rfl
set_option maxRecDepth 100000 in
theorem contract (H : Type) (enc : TypeId × Value → H) (W : World) (base : Nat) (args : Array Value) (ds gs : List (DataW H)) (before : List MemPlace)
    (hval : ∀ (j : Nat) t v, Tryz.f4.params[j]? = some t → args[j]? = some v → Value.okWide Tryz.prog W .any base t v)
    (hW : DataW.Whole enc Tryz.prog Tryz.f4.params.toList Rows.auditTriesSpec.vars false W args.toList ds gs before) (hL : laidMetH Tryz.prog Rows.auditTriesRow.laid W) (hS : W.ShapedOpen Tryz.prog) :
    Calls Tryz.prog 4 args W fun e W' => ∃ v, e = .returned v ∧ Rows.auditTriesSpec.post enc Tryz.prog Tryz.f4 false true false false W args v W' := by
  have hT : VRow.VTabs W := VRow.tabs_of hL hS
  have hW' := hW
  obtain ⟨p, q, hA0, hV, rfl, hfz, hnd⟩ := hW
  have hA : DataW.TrodAll enc Tryz.prog W 0 (fun _ => true) true Tryz.f4.params.toList args.toList ds p := hA0
  rw [Tryz.params4] at hA hval
  obtain ⟨v0, vs0, d0, ds0, p0, q0, hargs, rfl, rfl, h0, r0⟩ := trodAll_cons hA
  obtain ⟨v1, vs1, d1, ds1, p1, q1, rfl, rfl, rfl, h1, r1⟩ := trodAll_cons r0
  obtain ⟨v2, vs2, d2, ds2, p2, q2, rfl, rfl, rfl, h2, r2⟩ := trodAll_cons r1
  obtain ⟨v3, vs3, d3, ds3, p3, q3, rfl, rfl, rfl, h3, r3⟩ := trodAll_cons r2
  obtain ⟨v4, vs4, d4, ds4, p4, q4, rfl, rfl, rfl, h4, r4⟩ := trodAll_cons r3
  obtain ⟨v5, vs5, d5, ds5, p5, q5, rfl, rfl, rfl, h5, r5⟩ := trodAll_cons r4
  obtain ⟨rfl, rfl, rfl⟩ := trodAll_nil r5
  obtain rfl : args = #[v0, v1, v2, v3, v4, v5] := by cases args; simp_all
  obtain ⟨rfl, rfl⟩ := trodVars_none hV
  obtain ⟨a0, rfl, rfl, rfl, w0⟩ := open_int Tryz.underlying5 (hval 0 5 v0 rfl rfl) h0
  obtain ⟨a1, rfl, rfl, rfl, w1⟩ := open_int Tryz.underlying5 (hval 1 5 v1 rfl rfl) h1
  obtain ⟨a2, rfl, rfl, rfl, w2⟩ := open_int Tryz.underlying5 (hval 2 5 v2 rfl rfl) h2
  obtain ⟨a3, rfl, rfl, rfl, w3⟩ := open_int Tryz.underlying5 (hval 3 5 v3 rfl rfl) h3
  obtain ⟨a4, rfl, rfl, rfl, w4⟩ := open_int Tryz.underlying22 (hval 4 22 v4 rfl rfl) h4
  obtain ⟨a5, rfl, rfl, rfl, w5⟩ := open_int Tryz.underlying5 (hval 5 5 v5 rfl rfl) h5
  clear hA0
  simp only [List.append_nil] at hW'
  refine (walk a0 a1 a2 a3 a4 a5 w0 w1 w2 w3 w4 w5 W hT ).mono fun e W' ⟨he, hb⟩ => ?_
  subst he
  exact ⟨_, rfl, _, _, _, [], [], [], hW', trodAll_cons_mk (shut_bool Tryz.underlying4 _) trodAll_mk0, (trodAll_cons_mk (shut_int Tryz.underlying5 w0) (trodAll_cons_mk (shut_int Tryz.underlying5 w1) (trodAll_cons_mk (shut_int Tryz.underlying5 w2) (trodAll_cons_mk (shut_int Tryz.underlying5 w3) (trodAll_cons_mk (shut_int Tryz.underlying22 w4) (trodAll_cons_mk (shut_int Tryz.underlying5 w5) trodAll_mk0)))))), rfl, hb.frame _, fun h => by cases h⟩
set_option maxRecDepth 100000 in
theorem lifted (os : Os) (started : os.Started) (H : Type) (enc : TypeId × Value → H) (F : Stop.Interp) :
    ReturnsInHanded {} Tryz.checked os 4 .any ((OpenSpec.ofChange Rows.auditTriesSpec).preRow enc Tryz.prog Tryz.f4 Rows.auditTriesRow.domain false Rows.auditTriesRow.laid) (((OpenSpec.ofChange Rows.auditTriesSpec).at F).post enc Tryz.prog Tryz.f4 false true false false) := by
  refine returnsInHanded_of_row (C := Tryz.checked) (s := OpenSpec.ofChange Rows.auditTriesSpec) VRow.own started (by kernel_rfl) Tryz.func4
    (ChangeSpec.witness_shaped (enc := enc) (C := Tryz.checked) (os := os) (X := fun w _ => laidMetH Tryz.prog VRow.laidL w) false (World.laidAll Tryz.prog os VRow.laidL) #[.int .u8 0, .int .u8 0, .int .u8 0, .int .u8 0, .int .u64 0, .int .u8 0] 8 (World.laidAll_os _ _ _)
      (VRow.wit_shaped os _) (by kernel_rfl) (by kernel_rfl) (by kernel_rfl) (VRow.wit_laid os _)) ?_
  intro W base args ds gs before hval hW _ _ _ hL hS _
  exact contract H enc W base args ds gs before hval hW hL hS
end Go.Proofs.YtmpbddmbpeoehaaGreatDoor.auditTries
