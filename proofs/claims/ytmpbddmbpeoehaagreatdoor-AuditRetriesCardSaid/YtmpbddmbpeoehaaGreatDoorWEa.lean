/-
  Contracts, by their trees.
-/
import Derived.Test.YtmpbddmbpeoehaaGreatDoorWO
import Derived.Test.YtmpbddmbpeoehaaGreatDoorWI
import Derived.Test.YtmpbddmbpeoehaaGreatDoorWG
set_option linter.unusedVariables false
set_option linter.unusedSimpArgs false
set_option maxRecDepth 20000
set_option maxHeartbeats 4000000
namespace Go.Proofs.YtmpbddmbpeoehaaGreatDoor.Vc
open As
theorem mul_one64 {y : Int} (h : u64I y) : arithV .mul .u64 y 1 = y := by
 rw [mul64_at (by rw [Int.mul_one]; exact h.1) (by rw [Int.mul_one]; exact h.2), Int.mul_one]
theorem retP_two (r : As.Ret) : As.retP_ r = 0 ∨ As.retP_ r = 16 := by
 unfold As.retP_
 split
 ·exact .inl rfl
 ·exact As.rule_two _
theorem txt_loop2 {s : List UInt8} {h0 : Int} {Q : Int → Prop} (hl : s.length ≤ 9223372036854775807) (hh : u64I h0) (hQ : Q (hTxt h0 s)) :
  (∃ F1 : Int → Int → Prop × Nat, ((K.u64 h0) ∧ (K.i64 0) ∧ (F1 h0 0).1) ∧
   ∀ x3 : Int, IntKind.u64.min ≤ x3 → x3 ≤ IntKind.u64.max → ∀ x4 : Int, IntKind.i64.min ≤ x4 → x4 ≤ IntKind.i64.max → (F1 x3 x4).1 →
   (∀ x5 : Int, x5 = ((s.length : Nat) : Int) → 0 ≤ x5 ∧ x5 ≤ 9223372036854775807 ∧ ((x4 < x5 →
   ((0 ≤ x4 ∧ x4 < ((s.length : Nat) : Int)) ∧ ∀ x6 : Int, x6 = ((((s).getD (x4).toNat 0).toNat : Nat) : Int) → 0 ≤ x6 → x6 ≤ 255 → (arithP BinOp.xor x6 ∧ ∀ x7 : Int, x7 = arithV BinOp.xor IntKind.u64 x3 x6 → (K.u64 x7) ∧ (arithP BinOp.mul 1099511628211 ∧ ∀ x8 : Int, x8 = arithV BinOp.mul IntKind.u64 x7 1099511628211 → (K.u64 x8) ∧ ((x4 + 1) ≤ 9223372036854775807 ∧ ((K.u64 x8) ∧ (IntKind.i64.min ≤ (x4 + 1) ∧ (x4 + 1) ≤ IntKind.i64.max) ∧ ((F1 x8 (x4 + 1)).1 ∧ (F1 x8 (x4 + 1)).2 < (F1 x3 x4).2))))))) ∧
   (x5 ≤ x4 → Q x3)))) := by
 refine ⟨fun x3 x4 => (∃ i : Nat, x4 = i ∧ i ≤ s.length ∧ x3 = hTxt h0 (s.take i), ((s.length : Int) - x4).toNat), ⟨hh, by constructor <;> decide, 0, rfl, Nat.zero_le _, rfl⟩, ?_⟩
 rintro x3 k1 k2 x4 k3 k4 ⟨i, rfl, hi, rfl⟩ x5 hx5
 refine ⟨by omega, by omega, fun hlt => ?_, fun hge => ?_⟩
 ·have hil : i < s.length := by omega
  refine ⟨⟨by omega, by omega⟩, fun x6 e6 _ _ => ⟨trivial, fun x7 e7 => ⟨by rw [e7]; exact xor64_rng _ _, trivial, fun x8 e8 => ⟨by rw [e8]; exact mul64_rng _ _, by omega, by rw [e8]; exact mul64_rng _ _, k64 (by omega) (by omega), ⟨i + 1, by omega, by omega, ?_⟩, by first | omega | (simp only; omega)⟩⟩⟩⟩
  have hg : s.getD i 0 = s[i] := by simp [List.getD, hil]
  rw [e8, e7, e6, Int.toNat_natCast, hg]
  show hOne _ _ = _
  rw [← List.take_append_getElem hil]
  unfold hTxt byI
  rw [List.map_append, List.map_cons, List.map_nil, hFold_snoc]
 ·obtain rfl : i = s.length := by omega
  rw [List.take_length]
  exact hQ
def rMx_pre (x : Int) (m : Mem) : Prop := True
def rMx_post (x : Int) (m : Mem) (z : Int) : Prop := z = mixH x
def rMx : Sp := { args := [.i .u64], grp := [none], res := [.i .u64], rgrp := [none], fn := 208, spec := fun a0 => (rMx_pre a0, rMx_post a0) }
def rMx_VC : Prop := ∀ m : Mem, ∀ x0 : Int, IntKind.u64.min ≤ x0 → x0 ≤ IntKind.u64.max → rMx_pre x0 m →
 (arithP BinOp.shr 30 ∧ ∀ x1 : Int, x1 = arithV BinOp.shr IntKind.u64 x0 30 → (K.u64 x1) ∧ (arithP BinOp.xor x1 ∧ ∀ x2 : Int, x2 = arithV BinOp.xor IntKind.u64 x0 x1 → (K.u64 x2) ∧ (arithP BinOp.mul 13787848793156543929 ∧ ∀ x3 : Int, x3 = arithV BinOp.mul IntKind.u64 x2 13787848793156543929 → (K.u64 x3) ∧ (arithP BinOp.shr 27 ∧ ∀ x4 : Int, x4 = arithV BinOp.shr IntKind.u64 x3 27 → (K.u64 x4) ∧ (arithP BinOp.xor x4 ∧ ∀ x5 : Int, x5 = arithV BinOp.xor IntKind.u64 x3 x4 → (K.u64 x5) ∧ (arithP BinOp.mul 10723151780598845931 ∧ ∀ x6 : Int, x6 = arithV BinOp.mul IntKind.u64 x5 10723151780598845931 → (K.u64 x6) ∧ (arithP BinOp.shr 31 ∧ ∀ x7 : Int, x7 = arithV BinOp.shr IntKind.u64 x6 31 → (K.u64 x7) ∧ (arithP BinOp.xor x7 ∧ ∀ x8 : Int, x8 = arithV BinOp.xor IntKind.u64 x6 x7 → (K.u64 x8) ∧ ((K.u64 x8) ∧ rMx_post x0 m x8)))))))))
theorem rMx_vc : rMx_VC := by
 intro m x h1 h2 _
 have hx : u64I x := ⟨h1, h2⟩
 refine ⟨(by show (0 : Int) ≤ 30; decide), fun x1 e1 => ⟨by rw [e1]; exact shr64_rng hx 30 (by decide), trivial, fun x2 e2 => ⟨by rw [e2]; exact xor64_rng _ _, trivial, fun x3 e3 => ⟨by rw [e3]; exact mul64_rng _ _, (by show (0 : Int) ≤ 27; decide), fun x4 e4 => ⟨by rw [e4]; exact shr64_rng (by rw [e3]; exact mul64_rng _ _) 27 (by decide), trivial, fun x5 e5 => ⟨by rw [e5]; exact xor64_rng _ _, trivial, fun x6 e6 => ⟨by rw [e6]; exact mul64_rng _ _, (by show (0 : Int) ≤ 31; decide), fun x7 e7 => ⟨by rw [e7]; exact shr64_rng (by rw [e6]; exact mul64_rng _ _) 31 (by decide), trivial, fun x8 e8 => ?_⟩⟩⟩⟩⟩⟩⟩⟩
 have hr : u64I x8 := by rw [e8]; exact xor64_rng _ _
 refine ⟨hr, hr, ?_⟩
 show x8 = mixH x
 rw [← mul_one64 hr, e8, e7, e6, e5, e4, e3, e2, e1]
 rfl
theorem rMx_ok : SpOk Tryz.prog rMx :=
 con_ok (sps_of [] trivial rfl) (tab_ok _ []) 1000 rMx _ rfl rfl (Eq.mp (show rMx_VC = _ by kernel_rfl) rMx_vc)
def rBl_pre (x n : Int) (m : Mem) : Prop := True
def rBl_post (x n : Int) (m : Mem) (z e : Int) : Prop := (n = 0 → z = 0 ∧ e = 2) ∧ (n ≠ 0 → z = belowH x n ∧ e = 0)
def rBl : Sp := { args := [.i .u64, .i .u64], grp := [none, none], res := [.i .u64, .i .i64], rgrp := [none, none], fn := 207, spec := fun a0 a1 => (rBl_pre a0 a1, rBl_post a0 a1) }
def rBl_VC : Prop := ∀ m : Mem, ∀ x0 : Int, IntKind.u64.min ≤ x0 → x0 ≤ IntKind.u64.max → ∀ x1 : Int, IntKind.u64.min ≤ x1 → x1 ≤ IntKind.u64.max → rBl_pre x0 x1 m →
 ((x1 = 0 →
 ((K.u64 0) ∧ (K.i64 2) ∧ rBl_post x0 x1 m 0 2)) ∧
 (x1 ≠ 0 →
 (arithP BinOp.shr 32 ∧ ∀ x2 : Int, x2 = arithV BinOp.shr IntKind.u64 x0 32 → (K.u64 x2) ∧ (arithP BinOp.and 4294967295 ∧ ∀ x3 : Int, x3 = arithV BinOp.and IntKind.u64 x0 4294967295 → (K.u64 x3) ∧ (arithP BinOp.shr 32 ∧ ∀ x4 : Int, x4 = arithV BinOp.shr IntKind.u64 x1 32 → (K.u64 x4) ∧ (arithP BinOp.and 4294967295 ∧ ∀ x5 : Int, x5 = arithV BinOp.and IntKind.u64 x1 4294967295 → (K.u64 x5) ∧ (arithP BinOp.mul x5 ∧ ∀ x6 : Int, x6 = arithV BinOp.mul IntKind.u64 x3 x5 → (K.u64 x6) ∧ (arithP BinOp.mul x5 ∧ ∀ x7 : Int, x7 = arithV BinOp.mul IntKind.u64 x2 x5 → (K.u64 x7) ∧ (arithP BinOp.shr 32 ∧ ∀ x8 : Int, x8 = arithV BinOp.shr IntKind.u64 x6 32 → (K.u64 x8) ∧ (∀ x9 : Int, x9 = IntKind.u64.wrap (x7 + x8) → IntKind.u64.min ≤ x9 → x9 ≤ IntKind.u64.max → (arithP BinOp.mul x4 ∧ ∀ x10 : Int, x10 = arithV BinOp.mul IntKind.u64 x3 x4 → (K.u64 x10) ∧ (arithP BinOp.and 4294967295 ∧ ∀ x11 : Int, x11 = arithV BinOp.and IntKind.u64 x9 4294967295 → (K.u64 x11) ∧ (∀ x12 : Int, x12 = IntKind.u64.wrap (x10 + x11) → IntKind.u64.min ≤ x12 → x12 ≤ IntKind.u64.max → (arithP BinOp.mul x4 ∧ ∀ x13 : Int, x13 = arithV BinOp.mul IntKind.u64 x2 x4 → (K.u64 x13) ∧ (arithP BinOp.shr 32 ∧ ∀ x14 : Int, x14 = arithV BinOp.shr IntKind.u64 x9 32 → (K.u64 x14) ∧ (∀ x15 : Int, x15 = IntKind.u64.wrap (x13 + x14) → IntKind.u64.min ≤ x15 → x15 ≤ IntKind.u64.max → (arithP BinOp.shr 32 ∧ ∀ x16 : Int, x16 = arithV BinOp.shr IntKind.u64 x12 32 → (K.u64 x16) ∧ (∀ x17 : Int, x17 = IntKind.u64.wrap (x15 + x16) → IntKind.u64.min ≤ x17 → x17 ≤ IntKind.u64.max → ((K.u64 x17) ∧ (K.i64 0) ∧ rBl_post x0 x1 m x17 0)))))))))))))))))))
theorem rBl_vc : rBl_VC := by
 intro m x a1 a2 n b1 b2 _
 have hx : u64I x := ⟨a1, a2⟩
 have hn : u64I n := ⟨b1, b2⟩
 have k0 : IntKind.u64.min ≤ 0 ∧ 0 ≤ IntKind.u64.max := by constructor <;> decide
 refine ⟨fun h => ⟨k0, by constructor <;> decide, fun _ => ⟨rfl, rfl⟩, fun g => (g h).elim⟩, fun h => ?_⟩
 refine ⟨(by show (0 : Int) ≤ 32; decide), ?_⟩
 intro x3 e3
 refine ⟨by rw [e3]; exact shr64_rng hx 32 (by decide), ?_⟩
 refine ⟨trivial, ?_⟩
 intro x2 e2
 refine ⟨by rw [e2]; exact and64_rng _ _, ?_⟩
 refine ⟨(by show (0 : Int) ≤ 32; decide), ?_⟩
 intro x5 e5
 refine ⟨by rw [e5]; exact shr64_rng hn 32 (by decide), ?_⟩
 refine ⟨trivial, ?_⟩
 intro x4 e4
 refine ⟨by rw [e4]; exact and64_rng _ _, ?_⟩
 refine ⟨trivial, ?_⟩
 intro x6 e6
 refine ⟨by rw [e6]; exact mul64_rng _ _, ?_⟩
 refine ⟨trivial, ?_⟩
 intro x7 e7
 refine ⟨by rw [e7]; exact mul64_rng _ _, ?_⟩
 refine ⟨(by show (0 : Int) ≤ 32; decide), ?_⟩
 intro x8 e8
 refine ⟨by rw [e8]; exact shr64_rng (by rw [e6]; exact mul64_rng _ _) 32 (by decide), ?_⟩
 intro x9 e9 r9 s9
 refine ⟨trivial, ?_⟩
 intro x12 e12
 refine ⟨by rw [e12]; exact mul64_rng _ _, ?_⟩
 refine ⟨trivial, ?_⟩
 intro x10 e10
 refine ⟨by rw [e10]; exact and64_rng _ _, ?_⟩
 intro x13 e13 r13 s13
 refine ⟨trivial, ?_⟩
 intro x14 e14
 refine ⟨by rw [e14]; exact mul64_rng _ _, ?_⟩
 refine ⟨(by show (0 : Int) ≤ 32; decide), ?_⟩
 intro x11 e11
 refine ⟨by rw [e11]; exact shr64_rng ⟨r9, s9⟩ 32 (by decide), ?_⟩
 intro x15 e15 r15 s15
 refine ⟨(by show (0 : Int) ≤ 32; decide), ?_⟩
 intro x16 e16
 refine ⟨by rw [e16]; exact shr64_rng ⟨r13, s13⟩ 32 (by decide), ?_⟩
 intro x17 e17 r17 s17
 refine ⟨⟨r17, s17⟩, by constructor <;> decide, fun g => (h g).elim, fun _ => ⟨?_, rfl⟩⟩
 have sh : ∀ z : Int, 0 ≤ z → arithV .shr .u64 z 32 = z / 4294967296 := fun z hz => shr64 hz 32 (by decide)
 rw [mask64 hx] at e2
 rw [sh x hx.1] at e3
 rw [mask64 hn] at e4
 rw [sh n hn.1] at e5
 have hx2 := hx.2; have hn2 := hn.2; have hx1 := hx.1; have hn1 := hn.1
 have b2 : 0 ≤ x2 ∧ x2 ≤ 4294967295 := by omega
 have b3 : 0 ≤ x3 ∧ x3 ≤ 4294967295 := by omega
 have b4 : 0 ≤ x4 ∧ x4 ≤ 4294967295 := by omega
 have b5 : 0 ≤ x5 ∧ x5 ≤ 4294967295 := by omega
 have m6 := mul_part b2 b4
 have m7 := mul_part b3 b4
 have m12 := mul_part b2 b5
 have m14 := mul_part b3 b5
 rw [mul64_at m6.1 (by omega)] at e6
 rw [mul64_at m7.1 (by omega)] at e7
 rw [mul64_at m12.1 (by omega)] at e12
 rw [mul64_at m14.1 (by omega)] at e14
 rw [← e6] at m6
 rw [← e7] at m7
 rw [← e12] at m12
 rw [← e14] at m14
 rw [sh x6 m6.1] at e8
 rw [wrapU_at (by omega) (by omega)] at e9
 rw [mask64 ⟨r9, s9⟩] at e10
 have r9' : (0 : Int) ≤ x9 := r9
 have s9' : x9 ≤ 18446744073709551615 := s9
 rw [sh x9 r9'] at e11
 rw [wrapU_at (by omega) (by omega), Int.add_comm] at e13
 have r13' : (0 : Int) ≤ x13 := r13
 rw [sh x13 r13'] at e16
 have key := below_hi hx hn e2 e3 e4 e5 e6 e7 e8 e9 e10 e11 e12 e13 e14 e16
 have kr := (below_rng hx hn).1
 rw [wrapU_at (by omega) (by omega)] at e15
 rw [e17, e15, key]
 exact wrapU_at kr.1 kr.2
theorem rBl_ok : SpOk Tryz.prog rBl :=
 con_ok (sps_of [] trivial rfl) (tab_ok _ []) 1000 rBl _ rfl rfl (Eq.mp (show rBl_VC = _ by kernel_rfl) rBl_vc)
def rKey_pre (seed : Int) (s : List UInt8) (due k : Int) (m : Mem) : Prop := s.length ≤ 9223372036854775807
def rKey_post (seed : Int) (s : List UInt8) (due k : Int) (m : Mem) (z : Int) : Prop := z = keyH seed s due k
def rKey : Sp := { args := [.i .u64, .s, .i .i64, .i .i64], grp := [none, none, none, none], res := [.i .u64], rgrp := [none], fn := 209, spec := fun a0 a1 a2 a3 => (rKey_pre a0 a1 a2 a3, rKey_post a0 a1 a2 a3) }
def rKey_VC : Prop := ∀ m : Mem, ∀ x0 : Int, IntKind.u64.min ≤ x0 → x0 ≤ IntKind.u64.max → ∀ s0 : List UInt8, ∀ x1 : Int, mi ≤ x1 → x1 ≤ ma → ∀ x2 : Int, mi ≤ x2 → x2 ≤ ma → rKey_pre x0 s0 x1 x2 m →
 (∃ F1 : Int → Int → Prop × Nat, ((K.u64 14695981039346656037) ∧ (K.i64 0) ∧ (F1 14695981039346656037 0).1) ∧
 ∀ x3 : Int, IntKind.u64.min ≤ x3 → x3 ≤ IntKind.u64.max → ∀ x4 : Int, mi ≤ x4 → x4 ≤ ma → (F1 x3 x4).1 →
 (∀ x5 : Int, x5 = ((s0.length : Nat) : Int) → 0 ≤ x5 ∧ x5 ≤ 9223372036854775807 ∧ ((x4 < x5 →
 ((0 ≤ x4 ∧ x4 < ((s0.length : Nat) : Int)) ∧ ∀ x6 : Int, x6 = ((((s0).getD (x4).toNat 0).toNat : Nat) : Int) → 0 ≤ x6 → x6 ≤ 255 → (arithP BinOp.xor x6 ∧ ∀ x7 : Int, x7 = arithV BinOp.xor IntKind.u64 x3 x6 → (K.u64 x7) ∧ (arithP BinOp.mul 1099511628211 ∧ ∀ x8 : Int, x8 = arithV BinOp.mul IntKind.u64 x7 1099511628211 → (K.u64 x8) ∧ ((x4 + 1) ≤ 9223372036854775807 ∧ ((K.u64 x8) ∧ (mi ≤ (x4 + 1) ∧ (x4 + 1) ≤ ma) ∧ ((F1 x8 (x4 + 1)).1 ∧ (F1 x8 (x4 + 1)).2 < (F1 x3 x4).2))))))) ∧
 (x5 ≤ x4 →
 (∀ x6 : Int, x6 = IntKind.i64.wrap x0 → mi ≤ x6 → x6 ≤ ma → (∀ x7 : Int, x7 = IntKind.u64.wrap x6 → IntKind.u64.min ≤ x7 → x7 ≤ IntKind.u64.max → (arithP BinOp.shr 0 ∧ ∀ x8 : Int, x8 = arithV BinOp.shr IntKind.u64 x7 0 → (K.u64 x8) ∧ (∀ x9 : Int, x9 = IntKind.u8.wrap x8 → IntKind.u8.min ≤ x9 → x9 ≤ IntKind.u8.max → (arithP BinOp.xor x9 ∧ ∀ x10 : Int, x10 = arithV BinOp.xor IntKind.u64 x3 x9 → (K.u64 x10) ∧ (arithP BinOp.mul 1099511628211 ∧ ∀ x11 : Int, x11 = arithV BinOp.mul IntKind.u64 x10 1099511628211 → (K.u64 x11) ∧ (∀ x12 : Int, x12 = IntKind.u64.wrap x6 → IntKind.u64.min ≤ x12 → x12 ≤ IntKind.u64.max → (arithP BinOp.shr 8 ∧ ∀ x13 : Int, x13 = arithV BinOp.shr IntKind.u64 x12 8 → (K.u64 x13) ∧ (∀ x14 : Int, x14 = IntKind.u8.wrap x13 → IntKind.u8.min ≤ x14 → x14 ≤ IntKind.u8.max → (arithP BinOp.xor x14 ∧ ∀ x15 : Int, x15 = arithV BinOp.xor IntKind.u64 x11 x14 → (K.u64 x15) ∧ (arithP BinOp.mul 1099511628211 ∧ ∀ x16 : Int, x16 = arithV BinOp.mul IntKind.u64 x15 1099511628211 → (K.u64 x16) ∧ (∀ x17 : Int, x17 = IntKind.u64.wrap x6 → IntKind.u64.min ≤ x17 → x17 ≤ IntKind.u64.max → (arithP BinOp.shr 16 ∧ ∀ x18 : Int, x18 = arithV BinOp.shr IntKind.u64 x17 16 → (K.u64 x18) ∧ (∀ x19 : Int, x19 = IntKind.u8.wrap x18 → IntKind.u8.min ≤ x19 → x19 ≤ IntKind.u8.max → (arithP BinOp.xor x19 ∧ ∀ x20 : Int, x20 = arithV BinOp.xor IntKind.u64 x16 x19 → (K.u64 x20) ∧ (arithP BinOp.mul 1099511628211 ∧ ∀ x21 : Int, x21 = arithV BinOp.mul IntKind.u64 x20 1099511628211 → (K.u64 x21) ∧ (∀ x22 : Int, x22 = IntKind.u64.wrap x6 → IntKind.u64.min ≤ x22 → x22 ≤ IntKind.u64.max → (arithP BinOp.shr 24 ∧ ∀ x23 : Int, x23 = arithV BinOp.shr IntKind.u64 x22 24 → (K.u64 x23) ∧ (∀ x24 : Int, x24 = IntKind.u8.wrap x23 → IntKind.u8.min ≤ x24 → x24 ≤ IntKind.u8.max → (arithP BinOp.xor x24 ∧ ∀ x25 : Int, x25 = arithV BinOp.xor IntKind.u64 x21 x24 → (K.u64 x25) ∧ (arithP BinOp.mul 1099511628211 ∧ ∀ x26 : Int, x26 = arithV BinOp.mul IntKind.u64 x25 1099511628211 → (K.u64 x26) ∧ (∀ x27 : Int, x27 = IntKind.u64.wrap x6 → IntKind.u64.min ≤ x27 → x27 ≤ IntKind.u64.max → (arithP BinOp.shr 32 ∧ ∀ x28 : Int, x28 = arithV BinOp.shr IntKind.u64 x27 32 → (K.u64 x28) ∧ (∀ x29 : Int, x29 = IntKind.u8.wrap x28 → IntKind.u8.min ≤ x29 → x29 ≤ IntKind.u8.max → (arithP BinOp.xor x29 ∧ ∀ x30 : Int, x30 = arithV BinOp.xor IntKind.u64 x26 x29 → (K.u64 x30) ∧ (arithP BinOp.mul 1099511628211 ∧ ∀ x31 : Int, x31 = arithV BinOp.mul IntKind.u64 x30 1099511628211 → (K.u64 x31) ∧ (∀ x32 : Int, x32 = IntKind.u64.wrap x6 → IntKind.u64.min ≤ x32 → x32 ≤ IntKind.u64.max → (arithP BinOp.shr 40 ∧ ∀ x33 : Int, x33 = arithV BinOp.shr IntKind.u64 x32 40 → (K.u64 x33) ∧ (∀ x34 : Int, x34 = IntKind.u8.wrap x33 → IntKind.u8.min ≤ x34 → x34 ≤ IntKind.u8.max → (arithP BinOp.xor x34 ∧ ∀ x35 : Int, x35 = arithV BinOp.xor IntKind.u64 x31 x34 → (K.u64 x35) ∧ (arithP BinOp.mul 1099511628211 ∧ ∀ x36 : Int, x36 = arithV BinOp.mul IntKind.u64 x35 1099511628211 → (K.u64 x36) ∧ (∀ x37 : Int, x37 = IntKind.u64.wrap x6 → IntKind.u64.min ≤ x37 → x37 ≤ IntKind.u64.max → (arithP BinOp.shr 48 ∧ ∀ x38 : Int, x38 = arithV BinOp.shr IntKind.u64 x37 48 → (K.u64 x38) ∧ (∀ x39 : Int, x39 = IntKind.u8.wrap x38 → IntKind.u8.min ≤ x39 → x39 ≤ IntKind.u8.max → (arithP BinOp.xor x39 ∧ ∀ x40 : Int, x40 = arithV BinOp.xor IntKind.u64 x36 x39 → (K.u64 x40) ∧ (arithP BinOp.mul 1099511628211 ∧ ∀ x41 : Int, x41 = arithV BinOp.mul IntKind.u64 x40 1099511628211 → (K.u64 x41) ∧ (∀ x42 : Int, x42 = IntKind.u64.wrap x6 → IntKind.u64.min ≤ x42 → x42 ≤ IntKind.u64.max → (arithP BinOp.shr 56 ∧ ∀ x43 : Int, x43 = arithV BinOp.shr IntKind.u64 x42 56 → (K.u64 x43) ∧ (∀ x44 : Int, x44 = IntKind.u8.wrap x43 → IntKind.u8.min ≤ x44 → x44 ≤ IntKind.u8.max → (arithP BinOp.xor x44 ∧ ∀ x45 : Int, x45 = arithV BinOp.xor IntKind.u64 x41 x44 → (K.u64 x45) ∧ (arithP BinOp.mul 1099511628211 ∧ ∀ x46 : Int, x46 = arithV BinOp.mul IntKind.u64 x45 1099511628211 → (K.u64 x46) ∧ (∀ x47 : Int, x47 = IntKind.u64.wrap x1 → IntKind.u64.min ≤ x47 → x47 ≤ IntKind.u64.max → (arithP BinOp.shr 0 ∧ ∀ x48 : Int, x48 = arithV BinOp.shr IntKind.u64 x47 0 → (K.u64 x48) ∧ (∀ x49 : Int, x49 = IntKind.u8.wrap x48 → IntKind.u8.min ≤ x49 → x49 ≤ IntKind.u8.max → (arithP BinOp.xor x49 ∧ ∀ x50 : Int, x50 = arithV BinOp.xor IntKind.u64 x46 x49 → (K.u64 x50) ∧ (arithP BinOp.mul 1099511628211 ∧ ∀ x51 : Int, x51 = arithV BinOp.mul IntKind.u64 x50 1099511628211 → (K.u64 x51) ∧ (∀ x52 : Int, x52 = IntKind.u64.wrap x1 → IntKind.u64.min ≤ x52 → x52 ≤ IntKind.u64.max → (arithP BinOp.shr 8 ∧ ∀ x53 : Int, x53 = arithV BinOp.shr IntKind.u64 x52 8 → (K.u64 x53) ∧ (∀ x54 : Int, x54 = IntKind.u8.wrap x53 → IntKind.u8.min ≤ x54 → x54 ≤ IntKind.u8.max → (arithP BinOp.xor x54 ∧ ∀ x55 : Int, x55 = arithV BinOp.xor IntKind.u64 x51 x54 → (K.u64 x55) ∧ (arithP BinOp.mul 1099511628211 ∧ ∀ x56 : Int, x56 = arithV BinOp.mul IntKind.u64 x55 1099511628211 → (K.u64 x56) ∧ (∀ x57 : Int, x57 = IntKind.u64.wrap x1 → IntKind.u64.min ≤ x57 → x57 ≤ IntKind.u64.max → (arithP BinOp.shr 16 ∧ ∀ x58 : Int, x58 = arithV BinOp.shr IntKind.u64 x57 16 → (K.u64 x58) ∧ (∀ x59 : Int, x59 = IntKind.u8.wrap x58 → IntKind.u8.min ≤ x59 → x59 ≤ IntKind.u8.max → (arithP BinOp.xor x59 ∧ ∀ x60 : Int, x60 = arithV BinOp.xor IntKind.u64 x56 x59 → (K.u64 x60) ∧ (arithP BinOp.mul 1099511628211 ∧ ∀ x61 : Int, x61 = arithV BinOp.mul IntKind.u64 x60 1099511628211 → (K.u64 x61) ∧ (∀ x62 : Int, x62 = IntKind.u64.wrap x1 → IntKind.u64.min ≤ x62 → x62 ≤ IntKind.u64.max → (arithP BinOp.shr 24 ∧ ∀ x63 : Int, x63 = arithV BinOp.shr IntKind.u64 x62 24 → (K.u64 x63) ∧ (∀ x64 : Int, x64 = IntKind.u8.wrap x63 → IntKind.u8.min ≤ x64 → x64 ≤ IntKind.u8.max → (arithP BinOp.xor x64 ∧ ∀ x65 : Int, x65 = arithV BinOp.xor IntKind.u64 x61 x64 → (K.u64 x65) ∧ (arithP BinOp.mul 1099511628211 ∧ ∀ x66 : Int, x66 = arithV BinOp.mul IntKind.u64 x65 1099511628211 → (K.u64 x66) ∧ (∀ x67 : Int, x67 = IntKind.u64.wrap x1 → IntKind.u64.min ≤ x67 → x67 ≤ IntKind.u64.max → (arithP BinOp.shr 32 ∧ ∀ x68 : Int, x68 = arithV BinOp.shr IntKind.u64 x67 32 → (K.u64 x68) ∧ (∀ x69 : Int, x69 = IntKind.u8.wrap x68 → IntKind.u8.min ≤ x69 → x69 ≤ IntKind.u8.max → (arithP BinOp.xor x69 ∧ ∀ x70 : Int, x70 = arithV BinOp.xor IntKind.u64 x66 x69 → (K.u64 x70) ∧ (arithP BinOp.mul 1099511628211 ∧ ∀ x71 : Int, x71 = arithV BinOp.mul IntKind.u64 x70 1099511628211 → (K.u64 x71) ∧ (∀ x72 : Int, x72 = IntKind.u64.wrap x1 → IntKind.u64.min ≤ x72 → x72 ≤ IntKind.u64.max → (arithP BinOp.shr 40 ∧ ∀ x73 : Int, x73 = arithV BinOp.shr IntKind.u64 x72 40 → (K.u64 x73) ∧ (∀ x74 : Int, x74 = IntKind.u8.wrap x73 → IntKind.u8.min ≤ x74 → x74 ≤ IntKind.u8.max → (arithP BinOp.xor x74 ∧ ∀ x75 : Int, x75 = arithV BinOp.xor IntKind.u64 x71 x74 → (K.u64 x75) ∧ (arithP BinOp.mul 1099511628211 ∧ ∀ x76 : Int, x76 = arithV BinOp.mul IntKind.u64 x75 1099511628211 → (K.u64 x76) ∧ (∀ x77 : Int, x77 = IntKind.u64.wrap x1 → IntKind.u64.min ≤ x77 → x77 ≤ IntKind.u64.max → (arithP BinOp.shr 48 ∧ ∀ x78 : Int, x78 = arithV BinOp.shr IntKind.u64 x77 48 → (K.u64 x78) ∧ (∀ x79 : Int, x79 = IntKind.u8.wrap x78 → IntKind.u8.min ≤ x79 → x79 ≤ IntKind.u8.max → (arithP BinOp.xor x79 ∧ ∀ x80 : Int, x80 = arithV BinOp.xor IntKind.u64 x76 x79 → (K.u64 x80) ∧ (arithP BinOp.mul 1099511628211 ∧ ∀ x81 : Int, x81 = arithV BinOp.mul IntKind.u64 x80 1099511628211 → (K.u64 x81) ∧ (∀ x82 : Int, x82 = IntKind.u64.wrap x1 → IntKind.u64.min ≤ x82 → x82 ≤ IntKind.u64.max → (arithP BinOp.shr 56 ∧ ∀ x83 : Int, x83 = arithV BinOp.shr IntKind.u64 x82 56 → (K.u64 x83) ∧ (∀ x84 : Int, x84 = IntKind.u8.wrap x83 → IntKind.u8.min ≤ x84 → x84 ≤ IntKind.u8.max → (arithP BinOp.xor x84 ∧ ∀ x85 : Int, x85 = arithV BinOp.xor IntKind.u64 x81 x84 → (K.u64 x85) ∧ (arithP BinOp.mul 1099511628211 ∧ ∀ x86 : Int, x86 = arithV BinOp.mul IntKind.u64 x85 1099511628211 → (K.u64 x86) ∧ (∀ x87 : Int, x87 = IntKind.u64.wrap x2 → IntKind.u64.min ≤ x87 → x87 ≤ IntKind.u64.max → (arithP BinOp.shr 0 ∧ ∀ x88 : Int, x88 = arithV BinOp.shr IntKind.u64 x87 0 → (K.u64 x88) ∧ (∀ x89 : Int, x89 = IntKind.u8.wrap x88 → IntKind.u8.min ≤ x89 → x89 ≤ IntKind.u8.max → (arithP BinOp.xor x89 ∧ ∀ x90 : Int, x90 = arithV BinOp.xor IntKind.u64 x86 x89 → (K.u64 x90) ∧ (arithP BinOp.mul 1099511628211 ∧ ∀ x91 : Int, x91 = arithV BinOp.mul IntKind.u64 x90 1099511628211 → (K.u64 x91) ∧ (∀ x92 : Int, x92 = IntKind.u64.wrap x2 → IntKind.u64.min ≤ x92 → x92 ≤ IntKind.u64.max → (arithP BinOp.shr 8 ∧ ∀ x93 : Int, x93 = arithV BinOp.shr IntKind.u64 x92 8 → (K.u64 x93) ∧ (∀ x94 : Int, x94 = IntKind.u8.wrap x93 → IntKind.u8.min ≤ x94 → x94 ≤ IntKind.u8.max → (arithP BinOp.xor x94 ∧ ∀ x95 : Int, x95 = arithV BinOp.xor IntKind.u64 x91 x94 → (K.u64 x95) ∧ (arithP BinOp.mul 1099511628211 ∧ ∀ x96 : Int, x96 = arithV BinOp.mul IntKind.u64 x95 1099511628211 → (K.u64 x96) ∧ (∀ x97 : Int, x97 = IntKind.u64.wrap x2 → IntKind.u64.min ≤ x97 → x97 ≤ IntKind.u64.max → (arithP BinOp.shr 16 ∧ ∀ x98 : Int, x98 = arithV BinOp.shr IntKind.u64 x97 16 → (K.u64 x98) ∧ (∀ x99 : Int, x99 = IntKind.u8.wrap x98 → IntKind.u8.min ≤ x99 → x99 ≤ IntKind.u8.max → (arithP BinOp.xor x99 ∧ ∀ x100 : Int, x100 = arithV BinOp.xor IntKind.u64 x96 x99 → (K.u64 x100) ∧ (arithP BinOp.mul 1099511628211 ∧ ∀ x101 : Int, x101 = arithV BinOp.mul IntKind.u64 x100 1099511628211 → (K.u64 x101) ∧ (∀ x102 : Int, x102 = IntKind.u64.wrap x2 → IntKind.u64.min ≤ x102 → x102 ≤ IntKind.u64.max → (arithP BinOp.shr 24 ∧ ∀ x103 : Int, x103 = arithV BinOp.shr IntKind.u64 x102 24 → (K.u64 x103) ∧ (∀ x104 : Int, x104 = IntKind.u8.wrap x103 → IntKind.u8.min ≤ x104 → x104 ≤ IntKind.u8.max → (arithP BinOp.xor x104 ∧ ∀ x105 : Int, x105 = arithV BinOp.xor IntKind.u64 x101 x104 → (K.u64 x105) ∧ (arithP BinOp.mul 1099511628211 ∧ ∀ x106 : Int, x106 = arithV BinOp.mul IntKind.u64 x105 1099511628211 → (K.u64 x106) ∧ (∀ x107 : Int, x107 = IntKind.u64.wrap x2 → IntKind.u64.min ≤ x107 → x107 ≤ IntKind.u64.max → (arithP BinOp.shr 32 ∧ ∀ x108 : Int, x108 = arithV BinOp.shr IntKind.u64 x107 32 → (K.u64 x108) ∧ (∀ x109 : Int, x109 = IntKind.u8.wrap x108 → IntKind.u8.min ≤ x109 → x109 ≤ IntKind.u8.max → (arithP BinOp.xor x109 ∧ ∀ x110 : Int, x110 = arithV BinOp.xor IntKind.u64 x106 x109 → (K.u64 x110) ∧ (arithP BinOp.mul 1099511628211 ∧ ∀ x111 : Int, x111 = arithV BinOp.mul IntKind.u64 x110 1099511628211 → (K.u64 x111) ∧ (∀ x112 : Int, x112 = IntKind.u64.wrap x2 → IntKind.u64.min ≤ x112 → x112 ≤ IntKind.u64.max → (arithP BinOp.shr 40 ∧ ∀ x113 : Int, x113 = arithV BinOp.shr IntKind.u64 x112 40 → (K.u64 x113) ∧ (∀ x114 : Int, x114 = IntKind.u8.wrap x113 → IntKind.u8.min ≤ x114 → x114 ≤ IntKind.u8.max → (arithP BinOp.xor x114 ∧ ∀ x115 : Int, x115 = arithV BinOp.xor IntKind.u64 x111 x114 → (K.u64 x115) ∧ (arithP BinOp.mul 1099511628211 ∧ ∀ x116 : Int, x116 = arithV BinOp.mul IntKind.u64 x115 1099511628211 → (K.u64 x116) ∧ (∀ x117 : Int, x117 = IntKind.u64.wrap x2 → IntKind.u64.min ≤ x117 → x117 ≤ IntKind.u64.max → (arithP BinOp.shr 48 ∧ ∀ x118 : Int, x118 = arithV BinOp.shr IntKind.u64 x117 48 → (K.u64 x118) ∧ (∀ x119 : Int, x119 = IntKind.u8.wrap x118 → IntKind.u8.min ≤ x119 → x119 ≤ IntKind.u8.max → (arithP BinOp.xor x119 ∧ ∀ x120 : Int, x120 = arithV BinOp.xor IntKind.u64 x116 x119 → (K.u64 x120) ∧ (arithP BinOp.mul 1099511628211 ∧ ∀ x121 : Int, x121 = arithV BinOp.mul IntKind.u64 x120 1099511628211 → (K.u64 x121) ∧ (∀ x122 : Int, x122 = IntKind.u64.wrap x2 → IntKind.u64.min ≤ x122 → x122 ≤ IntKind.u64.max → (arithP BinOp.shr 56 ∧ ∀ x123 : Int, x123 = arithV BinOp.shr IntKind.u64 x122 56 → (K.u64 x123) ∧ (∀ x124 : Int, x124 = IntKind.u8.wrap x123 → IntKind.u8.min ≤ x124 → x124 ≤ IntKind.u8.max → (arithP BinOp.xor x124 ∧ ∀ x125 : Int, x125 = arithV BinOp.xor IntKind.u64 x121 x124 → (K.u64 x125) ∧ (arithP BinOp.mul 1099511628211 ∧ ∀ x126 : Int, x126 = arithV BinOp.mul IntKind.u64 x125 1099511628211 → (K.u64 x126) ∧ ((K.u64 x126) ∧ rKey_post x0 s0 x1 x2 m x126))))))))))))))))))))))))))))))))))))))))))))))))))))))))))))))))))))))))))))))))))))))))))))))))))))))))))))))))))))))))))))))
theorem rKey_vc : rKey_VC := by
 intro m seed _ _ s due _ _ k _ _ hs
 have hs : s.length ≤ 9223372036854775807 := hs
 refine txt_loop2 hs (by constructor <;> decide) ?_
 intro sd esd _ _
 subst esd
 intro aB0 eB0 _ _; refine ⟨(by show (0 : Int) ≤ 0; decide), ?_⟩; intro bB0 fB0; refine ⟨by rw [fB0, eB0]; exact shr64_rng (wrapU_rng _) 0 (by decide), ?_⟩; intro dB0 gB0 _ _; refine ⟨trivial, ?_⟩; intro yB0 qB0; refine ⟨by rw [qB0]; exact xor64_rng _ _, trivial, ?_⟩; intro hB0 zB0; refine ⟨by rw [zB0]; exact mul64_rng _ _, ?_⟩
 intro aB1 eB1 _ _; refine ⟨(by show (0 : Int) ≤ 8; decide), ?_⟩; intro bB1 fB1; refine ⟨by rw [fB1, eB1]; exact shr64_rng (wrapU_rng _) 8 (by decide), ?_⟩; intro dB1 gB1 _ _; refine ⟨trivial, ?_⟩; intro yB1 qB1; refine ⟨by rw [qB1]; exact xor64_rng _ _, trivial, ?_⟩; intro hB1 zB1; refine ⟨by rw [zB1]; exact mul64_rng _ _, ?_⟩
 intro aB2 eB2 _ _; refine ⟨(by show (0 : Int) ≤ 16; decide), ?_⟩; intro bB2 fB2; refine ⟨by rw [fB2, eB2]; exact shr64_rng (wrapU_rng _) 16 (by decide), ?_⟩; intro dB2 gB2 _ _; refine ⟨trivial, ?_⟩; intro yB2 qB2; refine ⟨by rw [qB2]; exact xor64_rng _ _, trivial, ?_⟩; intro hB2 zB2; refine ⟨by rw [zB2]; exact mul64_rng _ _, ?_⟩
 intro aB3 eB3 _ _; refine ⟨(by show (0 : Int) ≤ 24; decide), ?_⟩; intro bB3 fB3; refine ⟨by rw [fB3, eB3]; exact shr64_rng (wrapU_rng _) 24 (by decide), ?_⟩; intro dB3 gB3 _ _; refine ⟨trivial, ?_⟩; intro yB3 qB3; refine ⟨by rw [qB3]; exact xor64_rng _ _, trivial, ?_⟩; intro hB3 zB3; refine ⟨by rw [zB3]; exact mul64_rng _ _, ?_⟩
 intro aB4 eB4 _ _; refine ⟨(by show (0 : Int) ≤ 32; decide), ?_⟩; intro bB4 fB4; refine ⟨by rw [fB4, eB4]; exact shr64_rng (wrapU_rng _) 32 (by decide), ?_⟩; intro dB4 gB4 _ _; refine ⟨trivial, ?_⟩; intro yB4 qB4; refine ⟨by rw [qB4]; exact xor64_rng _ _, trivial, ?_⟩; intro hB4 zB4; refine ⟨by rw [zB4]; exact mul64_rng _ _, ?_⟩
 intro aB5 eB5 _ _; refine ⟨(by show (0 : Int) ≤ 40; decide), ?_⟩; intro bB5 fB5; refine ⟨by rw [fB5, eB5]; exact shr64_rng (wrapU_rng _) 40 (by decide), ?_⟩; intro dB5 gB5 _ _; refine ⟨trivial, ?_⟩; intro yB5 qB5; refine ⟨by rw [qB5]; exact xor64_rng _ _, trivial, ?_⟩; intro hB5 zB5; refine ⟨by rw [zB5]; exact mul64_rng _ _, ?_⟩
 intro aB6 eB6 _ _; refine ⟨(by show (0 : Int) ≤ 48; decide), ?_⟩; intro bB6 fB6; refine ⟨by rw [fB6, eB6]; exact shr64_rng (wrapU_rng _) 48 (by decide), ?_⟩; intro dB6 gB6 _ _; refine ⟨trivial, ?_⟩; intro yB6 qB6; refine ⟨by rw [qB6]; exact xor64_rng _ _, trivial, ?_⟩; intro hB6 zB6; refine ⟨by rw [zB6]; exact mul64_rng _ _, ?_⟩
 intro aB7 eB7 _ _; refine ⟨(by show (0 : Int) ≤ 56; decide), ?_⟩; intro bB7 fB7; refine ⟨by rw [fB7, eB7]; exact shr64_rng (wrapU_rng _) 56 (by decide), ?_⟩; intro dB7 gB7 _ _; refine ⟨trivial, ?_⟩; intro yB7 qB7; refine ⟨by rw [qB7]; exact xor64_rng _ _, trivial, ?_⟩; intro hB7 zB7; refine ⟨by rw [zB7]; exact mul64_rng _ _, ?_⟩
 have kB : hB7 = hNumV (hTxt 14695981039346656037 s) (IntKind.i64.wrap seed) := by
  rw [zB7, qB7, gB7, fB7, eB7, zB6, qB6, gB6, fB6, eB6, zB5, qB5, gB5, fB5, eB5, zB4, qB4, gB4, fB4, eB4, zB3, qB3, gB3, fB3, eB3, zB2, qB2, gB2, fB2, eB2, zB1, qB1, gB1, fB1, eB1, zB0, qB0, gB0, fB0, eB0]
  rfl
 clear zB7 zB6 zB5 zB4 zB3 zB2 zB1 zB0
 intro aC0 eC0 _ _; refine ⟨(by show (0 : Int) ≤ 0; decide), ?_⟩; intro bC0 fC0; refine ⟨by rw [fC0, eC0]; exact shr64_rng (wrapU_rng _) 0 (by decide), ?_⟩; intro dC0 gC0 _ _; refine ⟨trivial, ?_⟩; intro yC0 qC0; refine ⟨by rw [qC0]; exact xor64_rng _ _, trivial, ?_⟩; intro hC0 zC0; refine ⟨by rw [zC0]; exact mul64_rng _ _, ?_⟩
 intro aC1 eC1 _ _; refine ⟨(by show (0 : Int) ≤ 8; decide), ?_⟩; intro bC1 fC1; refine ⟨by rw [fC1, eC1]; exact shr64_rng (wrapU_rng _) 8 (by decide), ?_⟩; intro dC1 gC1 _ _; refine ⟨trivial, ?_⟩; intro yC1 qC1; refine ⟨by rw [qC1]; exact xor64_rng _ _, trivial, ?_⟩; intro hC1 zC1; refine ⟨by rw [zC1]; exact mul64_rng _ _, ?_⟩
 intro aC2 eC2 _ _; refine ⟨(by show (0 : Int) ≤ 16; decide), ?_⟩; intro bC2 fC2; refine ⟨by rw [fC2, eC2]; exact shr64_rng (wrapU_rng _) 16 (by decide), ?_⟩; intro dC2 gC2 _ _; refine ⟨trivial, ?_⟩; intro yC2 qC2; refine ⟨by rw [qC2]; exact xor64_rng _ _, trivial, ?_⟩; intro hC2 zC2; refine ⟨by rw [zC2]; exact mul64_rng _ _, ?_⟩
 intro aC3 eC3 _ _; refine ⟨(by show (0 : Int) ≤ 24; decide), ?_⟩; intro bC3 fC3; refine ⟨by rw [fC3, eC3]; exact shr64_rng (wrapU_rng _) 24 (by decide), ?_⟩; intro dC3 gC3 _ _; refine ⟨trivial, ?_⟩; intro yC3 qC3; refine ⟨by rw [qC3]; exact xor64_rng _ _, trivial, ?_⟩; intro hC3 zC3; refine ⟨by rw [zC3]; exact mul64_rng _ _, ?_⟩
 intro aC4 eC4 _ _; refine ⟨(by show (0 : Int) ≤ 32; decide), ?_⟩; intro bC4 fC4; refine ⟨by rw [fC4, eC4]; exact shr64_rng (wrapU_rng _) 32 (by decide), ?_⟩; intro dC4 gC4 _ _; refine ⟨trivial, ?_⟩; intro yC4 qC4; refine ⟨by rw [qC4]; exact xor64_rng _ _, trivial, ?_⟩; intro hC4 zC4; refine ⟨by rw [zC4]; exact mul64_rng _ _, ?_⟩
 intro aC5 eC5 _ _; refine ⟨(by show (0 : Int) ≤ 40; decide), ?_⟩; intro bC5 fC5; refine ⟨by rw [fC5, eC5]; exact shr64_rng (wrapU_rng _) 40 (by decide), ?_⟩; intro dC5 gC5 _ _; refine ⟨trivial, ?_⟩; intro yC5 qC5; refine ⟨by rw [qC5]; exact xor64_rng _ _, trivial, ?_⟩; intro hC5 zC5; refine ⟨by rw [zC5]; exact mul64_rng _ _, ?_⟩
 intro aC6 eC6 _ _; refine ⟨(by show (0 : Int) ≤ 48; decide), ?_⟩; intro bC6 fC6; refine ⟨by rw [fC6, eC6]; exact shr64_rng (wrapU_rng _) 48 (by decide), ?_⟩; intro dC6 gC6 _ _; refine ⟨trivial, ?_⟩; intro yC6 qC6; refine ⟨by rw [qC6]; exact xor64_rng _ _, trivial, ?_⟩; intro hC6 zC6; refine ⟨by rw [zC6]; exact mul64_rng _ _, ?_⟩
 intro aC7 eC7 _ _; refine ⟨(by show (0 : Int) ≤ 56; decide), ?_⟩; intro bC7 fC7; refine ⟨by rw [fC7, eC7]; exact shr64_rng (wrapU_rng _) 56 (by decide), ?_⟩; intro dC7 gC7 _ _; refine ⟨trivial, ?_⟩; intro yC7 qC7; refine ⟨by rw [qC7]; exact xor64_rng _ _, trivial, ?_⟩; intro hC7 zC7; refine ⟨by rw [zC7]; exact mul64_rng _ _, ?_⟩
 have kC : hC7 = hNumV hB7 due := by
  rw [zC7, qC7, gC7, fC7, eC7, zC6, qC6, gC6, fC6, eC6, zC5, qC5, gC5, fC5, eC5, zC4, qC4, gC4, fC4, eC4, zC3, qC3, gC3, fC3, eC3, zC2, qC2, gC2, fC2, eC2, zC1, qC1, gC1, fC1, eC1, zC0, qC0, gC0, fC0, eC0]
  rfl
 clear zC7 zC6 zC5 zC4 zC3 zC2 zC1 zC0
 intro aD0 eD0 _ _; refine ⟨(by show (0 : Int) ≤ 0; decide), ?_⟩; intro bD0 fD0; refine ⟨by rw [fD0, eD0]; exact shr64_rng (wrapU_rng _) 0 (by decide), ?_⟩; intro dD0 gD0 _ _; refine ⟨trivial, ?_⟩; intro yD0 qD0; refine ⟨by rw [qD0]; exact xor64_rng _ _, trivial, ?_⟩; intro hD0 zD0; refine ⟨by rw [zD0]; exact mul64_rng _ _, ?_⟩
 intro aD1 eD1 _ _; refine ⟨(by show (0 : Int) ≤ 8; decide), ?_⟩; intro bD1 fD1; refine ⟨by rw [fD1, eD1]; exact shr64_rng (wrapU_rng _) 8 (by decide), ?_⟩; intro dD1 gD1 _ _; refine ⟨trivial, ?_⟩; intro yD1 qD1; refine ⟨by rw [qD1]; exact xor64_rng _ _, trivial, ?_⟩; intro hD1 zD1; refine ⟨by rw [zD1]; exact mul64_rng _ _, ?_⟩
 intro aD2 eD2 _ _; refine ⟨(by show (0 : Int) ≤ 16; decide), ?_⟩; intro bD2 fD2; refine ⟨by rw [fD2, eD2]; exact shr64_rng (wrapU_rng _) 16 (by decide), ?_⟩; intro dD2 gD2 _ _; refine ⟨trivial, ?_⟩; intro yD2 qD2; refine ⟨by rw [qD2]; exact xor64_rng _ _, trivial, ?_⟩; intro hD2 zD2; refine ⟨by rw [zD2]; exact mul64_rng _ _, ?_⟩
 intro aD3 eD3 _ _; refine ⟨(by show (0 : Int) ≤ 24; decide), ?_⟩; intro bD3 fD3; refine ⟨by rw [fD3, eD3]; exact shr64_rng (wrapU_rng _) 24 (by decide), ?_⟩; intro dD3 gD3 _ _; refine ⟨trivial, ?_⟩; intro yD3 qD3; refine ⟨by rw [qD3]; exact xor64_rng _ _, trivial, ?_⟩; intro hD3 zD3; refine ⟨by rw [zD3]; exact mul64_rng _ _, ?_⟩
 intro aD4 eD4 _ _; refine ⟨(by show (0 : Int) ≤ 32; decide), ?_⟩; intro bD4 fD4; refine ⟨by rw [fD4, eD4]; exact shr64_rng (wrapU_rng _) 32 (by decide), ?_⟩; intro dD4 gD4 _ _; refine ⟨trivial, ?_⟩; intro yD4 qD4; refine ⟨by rw [qD4]; exact xor64_rng _ _, trivial, ?_⟩; intro hD4 zD4; refine ⟨by rw [zD4]; exact mul64_rng _ _, ?_⟩
 intro aD5 eD5 _ _; refine ⟨(by show (0 : Int) ≤ 40; decide), ?_⟩; intro bD5 fD5; refine ⟨by rw [fD5, eD5]; exact shr64_rng (wrapU_rng _) 40 (by decide), ?_⟩; intro dD5 gD5 _ _; refine ⟨trivial, ?_⟩; intro yD5 qD5; refine ⟨by rw [qD5]; exact xor64_rng _ _, trivial, ?_⟩; intro hD5 zD5; refine ⟨by rw [zD5]; exact mul64_rng _ _, ?_⟩
 intro aD6 eD6 _ _; refine ⟨(by show (0 : Int) ≤ 48; decide), ?_⟩; intro bD6 fD6; refine ⟨by rw [fD6, eD6]; exact shr64_rng (wrapU_rng _) 48 (by decide), ?_⟩; intro dD6 gD6 _ _; refine ⟨trivial, ?_⟩; intro yD6 qD6; refine ⟨by rw [qD6]; exact xor64_rng _ _, trivial, ?_⟩; intro hD6 zD6; refine ⟨by rw [zD6]; exact mul64_rng _ _, ?_⟩
 intro aD7 eD7 _ _; refine ⟨(by show (0 : Int) ≤ 56; decide), ?_⟩; intro bD7 fD7; refine ⟨by rw [fD7, eD7]; exact shr64_rng (wrapU_rng _) 56 (by decide), ?_⟩; intro dD7 gD7 _ _; refine ⟨trivial, ?_⟩; intro yD7 qD7; refine ⟨by rw [qD7]; exact xor64_rng _ _, trivial, ?_⟩; intro hD7 zD7; refine ⟨by rw [zD7]; exact mul64_rng _ _, ?_⟩
 have kD : hD7 = hNumV hC7 k := by
  rw [zD7, qD7, gD7, fD7, eD7, zD6, qD6, gD6, fD6, eD6, zD5, qD5, gD5, fD5, eD5, zD4, qD4, gD4, fD4, eD4, zD3, qD3, gD3, fD3, eD3, zD2, qD2, gD2, fD2, eD2, zD1, qD1, gD1, fD1, eD1, zD0, qD0, gD0, fD0, eD0]
  rfl
 clear zD7 zD6 zD5 zD4 zD3 zD2 zD1 zD0
 have hr : u64I hD7 := by rw [kD, kC, kB]; exact hFold_rng (hFold_rng (hFold_rng (hFold_rng (by constructor <;> decide) _) _) _) _
 refine ⟨hr, ?_⟩
 show hD7 = keyH seed s due k
 rw [kD, kC, kB]; rfl
theorem rKey_ok : SpOk Tryz.prog rKey :=
 con_ok (sps_of [] trivial rfl) (tab_ok _ [⟨(18, 2), [], [], [], []⟩]) 1000 rKey _ rfl rfl (Eq.mp (show rKey_VC = _ by kernel_rfl) rKey_vc)
def rjW_pre (seed : Int) (s : List UInt8) (due k len : Int) (m : Mem) : Prop := s.length ≤ 9223372036854775807
def rjW_post (seed : Int) (s : List UInt8) (due k len : Int) (m : Mem) (z e : Int) : Prop := e = jitE s due k len ∧ z = if jitE s due k len = 0 then jitV seed s due k len else 0
def rjW : Sp := { args := [.i .u64, .s, .i .i64, .i .i64, .i .i64], grp := [none, none, none, none, none], res := [.i .i64, .i .i64], rgrp := [none, none], fn := 119, spec := fun a0 a1 a2 a3 a4 => (rjW_pre a0 a1 a2 a3 a4, rjW_post a0 a1 a2 a3 a4) }
def rjW_VC : Prop := ∀ m : Mem, ∀ x0 : Int, IntKind.u64.min ≤ x0 → x0 ≤ IntKind.u64.max → ∀ s0 : List UInt8, ∀ x1 : Int, mi ≤ x1 → x1 ≤ ma → ∀ x2 : Int, mi ≤ x2 → x2 ≤ ma → ∀ x3 : Int, mi ≤ x3 → x3 ≤ ma → rjW_pre x0 s0 x1 x2 x3 m →
 (rNam_pre s0 m ∧ ∀ m1 : Mem, MemSub m m1 → ∀ b0 : Bool, rNam_post s0 m1 b0 →
 ((b0 = false →
 ((K.i64 0) ∧ (K.i64 15) ∧ rjW_post x0 s0 x1 x2 x3 m1 0 15)) ∧
 (b0 = true →
 ((x1 < 0 →
 ((K.i64 0) ∧ (K.i64 14) ∧ rjW_post x0 s0 x1 x2 x3 m1 0 14)) ∧
 (0 ≤ x1 →
 ((253402300799 < x1 →
 ((K.i64 0) ∧ (K.i64 14) ∧ rjW_post x0 s0 x1 x2 x3 m1 0 14)) ∧
 (x1 ≤ 253402300799 →
 ((x2 < 1 →
 ((K.i64 0) ∧ (K.i64 2) ∧ rjW_post x0 s0 x1 x2 x3 m1 0 2)) ∧
 (1 ≤ x2 →
 ((21 < x2 →
 ((K.i64 0) ∧ (K.i64 2) ∧ rjW_post x0 s0 x1 x2 x3 m1 0 2)) ∧
 (x2 ≤ 21 →
 ((x3 < 0 →
 ((K.i64 0) ∧ (K.i64 2) ∧ rjW_post x0 s0 x1 x2 x3 m1 0 2)) ∧
 (0 ≤ x3 →
 ((68719476736 < x3 →
 ((K.i64 0) ∧ (K.i64 2) ∧ rjW_post x0 s0 x1 x2 x3 m1 0 2)) ∧
 (x3 ≤ 68719476736 →
 ((x3 = 0 →
 ((K.i64 0) ∧ (K.i64 0) ∧ rjW_post x0 s0 x1 x2 x3 m1 0 0)) ∧
 (x3 ≠ 0 →
 (rKey_pre x0 s0 x1 x2 m1 ∧ ∀ m2 : Mem, MemSub m1 m2 → ∀ x4 : Int, IntKind.u64.min ≤ x4 → x4 ≤ IntKind.u64.max → rKey_post x0 s0 x1 x2 m2 x4 →
 (rMx_pre x4 m2 ∧ ∀ m3 : Mem, MemSub m2 m3 → ∀ x5 : Int, IntKind.u64.min ≤ x5 → x5 ≤ IntKind.u64.max → rMx_post x4 m3 x5 →
 (rBl_pre x5 x3 m3 ∧ ∀ m4 : Mem, MemSub m3 m4 → ∀ x6 : Int, IntKind.u64.min ≤ x6 → x6 ≤ IntKind.u64.max → ∀ x7 : Int, mi ≤ x7 → x7 ≤ ma → rBl_post x5 x3 m4 x6 x7 →
 (∀ x8 : Int, x8 = IntKind.i64.wrap x6 → mi ≤ x8 → x8 ≤ ma → ((K.i64 x8) ∧ (K.i64 0) ∧ rjW_post x0 s0 x1 x2 x3 m4 x8 0))))))))))))))))))))))
theorem rjW_vc : rjW_VC := by
 intro m seed _ _ s due d1 d2 k k1 k2 len l1 l2 hs
 have hs : s.length ≤ 9223372036854775807 := hs
 have kz : K.i64 0 := by constructor <;> decide
 have ke : K.i64 15 ∧ K.i64 14 ∧ K.i64 2 := by refine ⟨?_, ?_, ?_⟩ <;> (constructor <;> decide)
 have bad : ∀ (m' : Mem) (e : Int), e ≠ 0 → K.i64 e → jitE s due k len = e → (K.i64 0) ∧ (K.i64 e) ∧ rjW_post seed s due k len m' 0 e := fun m' e h0 hk h => ⟨kz, hk, h.symm, by rw [h, if_neg h0]⟩
 refine ⟨hs, fun m1 hm1 b hb => ?_⟩
 have hb : b = nameB s := hb
 refine ⟨fun h => bad m1 15 (by decide) ke.1 (by unfold jitE; rw [if_pos (by rw [← hb]; exact h)]), fun h => ?_⟩
 have hn : ¬ nameB s = false := by rw [← hb, h]; simp
 refine ⟨fun h => bad m1 14 (by decide) ke.2.1 (by unfold jitE; rw [if_neg hn, if_pos (by omega)]), fun h => ⟨fun h => bad m1 14 (by decide) ke.2.1 (by unfold jitE; rw [if_neg hn, if_pos (by omega)]), fun h => ⟨fun h => bad m1 2 (by decide) ke.2.2 (by unfold jitE; rw [if_neg hn, if_neg (by omega), if_pos (by omega)]), fun h => ⟨fun h => bad m1 2 (by decide) ke.2.2 (by unfold jitE; rw [if_neg hn, if_neg (by omega), if_pos (by omega)]), fun h => ⟨fun h => bad m1 2 (by decide) ke.2.2 (by unfold jitE; rw [if_neg hn, if_neg (by omega), if_pos (by omega)]), fun h => ⟨fun h => bad m1 2 (by decide) ke.2.2 (by unfold jitE; rw [if_neg hn, if_neg (by omega), if_pos (by omega)]), fun h => ?_⟩⟩⟩⟩⟩⟩
 have hE : jitE s due k len = 0 := by unfold jitE; rw [if_neg hn, if_neg (by omega), if_neg (by omega)]
 obtain ⟨q1, q2, q3, q4⟩ := jitV_rng seed s due k (len := len) (by omega) (by omega)
 refine ⟨fun hl0 => ⟨kz, kz, hE.symm, by rw [if_pos hE, q4 hl0]⟩, fun hl0 => ⟨hs, fun m2 hm2 x4 _ _ h4 => ⟨trivial, fun m3 hm3 x5 _ _ h5 => ⟨trivial, fun m4 hm4 x6 _ _ x7 _ _ h6 => ?_⟩⟩⟩⟩
 have h4 : x4 = keyH seed s due k := h4
 have h5 : x5 = mixH x4 := h5
 obtain ⟨h6, h7⟩ := h6
 intro x8 e8 r8 s8
 refine ⟨⟨r8, s8⟩, kz, hE.symm, ?_⟩
 rw [if_pos hE]
 have hx : x6 = jitV seed s due k len := by rw [(h7 hl0).1, h5, h4]; rfl
 rw [e8, hx]
 exact wrap_id (by show (-9223372036854775808 : Int) ≤ _; omega) (by show _ ≤ (9223372036854775807 : Int); omega)
theorem rjW_ok : SpOk Tryz.prog rjW :=
 con_ok (sps_of [rKey, rMx, rBl, rNam] ⟨rKey_ok, ⟨rMx_ok, ⟨rBl_ok, ⟨rNam_ok, trivial⟩⟩⟩⟩ rfl) (tab_ok _ []) 1000 rjW _ rfl rfl (Eq.mp (show rjW_VC = _ by kernel_rfl) rjW_vc)
def rbC_pre (a b c d : Int) (m : Mem) : Prop := True
def rbC_post (a b c d : Int) (m : Mem) (e : Int) : Prop := e = As.retP_ ⟨a, b, c, d⟩
def rbC : Sp := { args := [.i .i64, .i .i64, .i .i64, .i .i64], grp := [some 4], res := [.i .i64], rgrp := [none], fn := 115, spec := fun a0 a1 a2 a3 => (rbC_pre a0 a1 a2 a3, rbC_post a0 a1 a2 a3) }
def rbC_VC : Prop := ∀ m : Mem, ∀ x0 : Int, mi ≤ x0 → x0 ≤ ma → ∀ x1 : Int, mi ≤ x1 → x1 ≤ ma → ∀ x2 : Int, mi ≤ x2 → x2 ≤ ma → ∀ x3 : Int, mi ≤ x3 → x3 ≤ ma → rbC_pre x0 x1 x2 x3 m →
 (((x0 = 0 ∧ (x1 = 0 ∧ (x2 = 0 ∧ x3 = 0))) →
 ((K.i64 0) ∧ rbC_post x0 x1 x2 x3 m 0)) ∧
 ((x0 = 0 → (x1 = 0 → (x2 = 0 → x3 ≠ 0))) →
 ((x0 < 1 →
 ((K.i64 16) ∧ rbC_post x0 x1 x2 x3 m 16)) ∧
 (1 ≤ x0 →
 ((20 < x0 →
 ((K.i64 16) ∧ rbC_post x0 x1 x2 x3 m 16)) ∧
 (x0 ≤ 20 →
 ((x1 < 1 →
 ((K.i64 16) ∧ rbC_post x0 x1 x2 x3 m 16)) ∧
 (1 ≤ x1 →
 ((x2 < x1 →
 ((K.i64 16) ∧ rbC_post x0 x1 x2 x3 m 16)) ∧
 (x1 ≤ x2 →
 ((68719476736 < x2 →
 ((K.i64 16) ∧ rbC_post x0 x1 x2 x3 m 16)) ∧
 (x2 ≤ 68719476736 →
 ((x3 < 0 →
 ((K.i64 16) ∧ rbC_post x0 x1 x2 x3 m 16)) ∧
 (0 ≤ x3 →
 ((68719476736 < x3 →
 ((K.i64 16) ∧ rbC_post x0 x1 x2 x3 m 16)) ∧
 (x3 ≤ 68719476736 →
 ((K.i64 0) ∧ rbC_post x0 x1 x2 x3 m 0)))))))))))))))))
theorem rbC_vc : rbC_VC := by
 intro m a _ _ b _ _ c _ _ d _ _ _
 have kz : K.i64 0 := by constructor <;> decide
 have ke : K.i64 16 := by constructor <;> decide
 have bad : ¬ (a = 0 ∧ b = 0 ∧ c = 0 ∧ d = 0) → (a < 1 ∨ 20 < a ∨ b < 1 ∨ c < b ∨ 68719476736 < c ∨ d < 0 ∨ 68719476736 < d) → (K.i64 16) ∧ rbC_post a b c d m 16 := fun h h1 => ⟨ke, by
  rcases rule_two [inB a 1 20, inB b 1 spanM, inB c b spanM, inB d 0 spanM] with g | g
  ·exfalso
   rw [rule_zero] at g
   have g1 := g _ (List.mem_cons_self ..)
   have g2 := g (inB b 1 spanM) (by simp)
   have g3 := g (inB c b spanM) (by simp)
   have g4 := g (inB d 0 spanM) (by simp)
   simp only [inB, Bool.and_eq_true, decide_eq_true_eq, spanM] at g1 g2 g3 g4
   omega
  ·show 16 = As.retP_ ⟨a, b, c, d⟩
   unfold As.retP_
   rw [if_neg (fun e => by cases e; exact h ⟨rfl, rfl, rfl, rfl⟩)]
   exact g.symm⟩
 refine ⟨fun h => ⟨kz, ?_⟩, fun h => ?_⟩
 ·obtain ⟨rfl, rfl, rfl, rfl⟩ := h
  show (0 : Int) = As.retP_ ⟨0, 0, 0, 0⟩
  unfold As.retP_
  rw [if_pos rfl]
 have hn : ¬ (a = 0 ∧ b = 0 ∧ c = 0 ∧ d = 0) := fun g => h g.1 g.2.1 g.2.2.1 g.2.2.2
 refine ⟨fun g => bad hn (by omega), fun g1 => ⟨fun g => bad hn (by omega), fun g2 => ⟨fun g => bad hn (by omega), fun g3 => ⟨fun g => bad hn (by omega), fun g4 => ⟨fun g => bad hn (by omega), fun g5 => ⟨fun g => bad hn (by omega), fun g6 => ⟨fun g => bad hn (by omega), fun g7 => ⟨kz, ?_⟩⟩⟩⟩⟩⟩⟩⟩
 show (0 : Int) = As.retP_ ⟨a, b, c, d⟩
 unfold As.retP_
 rw [if_neg (fun e => by cases e; exact hn ⟨rfl, rfl, rfl, rfl⟩)]
 symm
 rw [rule_zero]
 intro x hx
 simp only [List.mem_cons, List.not_mem_nil, or_false] at hx
 rcases hx with rfl | rfl | rfl | rfl <;> (simp [inB, spanM]; omega)
theorem rbC_ok : SpOk Tryz.prog rbC :=
 con_ok (sps_of [] trivial rfl) (tab_ok _ []) 1000 rbC _ rfl rfl (Eq.mp (show rbC_VC = _ by kernel_rfl) rbC_vc)
def rbW_pre (a b c d k : Int) (m : Mem) : Prop := True
def rbW_post (a b c d k : Int) (m : Mem) (z e : Int) : Prop := As.retP_ ⟨a, b, c, d⟩ = 0 → 1 ≤ k → k ≤ a → z = bkN b c (k - 1).toNat ∧ e = 0
def rbW : Sp := { args := [.i .i64, .i .i64, .i .i64, .i .i64, .i .i64], grp := [some 4, none], res := [.i .i64, .i .i64], rgrp := [none, none], fn := 118, spec := fun a0 a1 a2 a3 a4 => (rbW_pre a0 a1 a2 a3 a4, rbW_post a0 a1 a2 a3 a4) }
def rbW_VC : Prop := ∀ m : Mem, ∀ x0 : Int, mi ≤ x0 → x0 ≤ ma → ∀ x1 : Int, mi ≤ x1 → x1 ≤ ma → ∀ x2 : Int, mi ≤ x2 → x2 ≤ ma → ∀ x3 : Int, mi ≤ x3 → x3 ≤ ma → ∀ x4 : Int, mi ≤ x4 → x4 ≤ ma → rbW_pre x0 x1 x2 x3 x4 m →
 (rbC_pre x0 x1 x2 x3 m ∧ ∀ m1 : Mem, MemSub m m1 → ∀ x5 : Int, mi ≤ x5 → x5 ≤ ma → rbC_post x0 x1 x2 x3 m1 x5 →
 ((x5 ≠ 0 →
 ((K.i64 0) ∧ (K.i64 16) ∧ rbW_post x0 x1 x2 x3 x4 m1 0 16)) ∧
 (x5 = 0 →
 ((x4 < 1 →
 ((K.i64 0) ∧ (K.i64 3) ∧ rbW_post x0 x1 x2 x3 x4 m1 0 3)) ∧
 (1 ≤ x4 →
 ((x0 < x4 →
 ((K.i64 0) ∧ (K.i64 3) ∧ rbW_post x0 x1 x2 x3 x4 m1 0 3)) ∧
 (x4 ≤ x0 →
 (∃ F2 : Int → Int → Prop × Nat, ((K.i64 x1) ∧ (K.i64 1) ∧ (F2 x1 1).1) ∧
 ∀ x6 : Int, mi ≤ x6 → x6 ≤ ma → ∀ x7 : Int, mi ≤ x7 → x7 ≤ ma → (F2 x6 x7).1 →
 ((x7 < x4 →
 ((-9223372036854775808 : Int) ≤ (2 * x6) ∧ ((2 * x6) ≤ 9223372036854775807 ∧ (∀ x8 : Int, x8 = (bif false then max (2 * x6) x2 else min (2 * x6) x2) → (K.i64 x8) ∧ ((x7 + 1) ≤ 9223372036854775807 ∧ ((K.i64 x8) ∧ (mi ≤ (x7 + 1) ∧ (x7 + 1) ≤ ma) ∧ ((F2 x8 (x7 + 1)).1 ∧ (F2 x8 (x7 + 1)).2 < (F2 x6 x7).2))))))) ∧
 (x4 ≤ x7 →
 ((K.i64 x6) ∧ (K.i64 0) ∧ rbW_post x0 x1 x2 x3 x4 m1 x6 0)))))))))))
theorem rbW_vc : rbW_VC := by
 intro m a a1 a2 b b1 b2 c c1 c2 d d1 d2 k k1 k2 _
 have kz : K.i64 0 := by constructor <;> decide
 refine ⟨trivial, fun m1 hm1 e r1 r2 he => ?_⟩
 have he : e = As.retP_ ⟨a, b, c, d⟩ := he
 refine ⟨fun hne => ⟨kz, by constructor <;> decide, fun h => by rw [he] at hne; exact (hne h).elim⟩, fun h0 => ?_⟩
 have hr : As.retP_ ⟨a, b, c, d⟩ = 0 := by rw [← he]; exact h0
 have ho := ret_ok hr
 simp only at ho
 have k3 : K.i64 3 := by constructor <;> decide
 refine ⟨fun h => ⟨kz, k3, fun _ _ _ => by omega⟩, fun hk1 => ⟨fun h => ⟨kz, k3, fun _ _ _ => by omega⟩, fun hka => ?_⟩⟩
 have hbn : ∀ n, 1 ≤ bkN b c n ∧ bkN b c n ≤ c := fun n => bkN_rng (by omega) (by omega) n
 refine ⟨fun w y => (∃ n : Nat, y = (n : Int) + 1 ∧ (n : Int) + 1 ≤ k ∧ w = bkN b c n, (k - y).toNat), ⟨⟨b1, b2⟩, by constructor <;> decide, 0, rfl, by omega, rfl⟩, ?_⟩
 rintro w _ _ y _ _ ⟨n, rfl, hn, rfl⟩
 obtain ⟨q1, q2⟩ := hbn n
 refine ⟨fun hlt => ⟨by omega, by omega, fun w2 hw2 => ?_⟩, fun hge => ⟨k64 (by omega) (by omega), kz, fun _ _ _ => ⟨?_, rfl⟩⟩⟩
 ·have hw2 : w2 = min (2 * bkN b c n) c := hw2
  have hw2 : w2 = bkN b c (n + 1) := by rw [hw2]; simp only [bkN]; congr 1; omega
  obtain ⟨q3, q4⟩ := hbn (n + 1)
  exact ⟨by rw [hw2]; exact k64 (by omega) (by omega), by omega, by rw [hw2]; exact k64 (by omega) (by omega), k64 (by omega) (by omega), ⟨n + 1, by omega, by omega, hw2⟩, by first | omega | (simp only; omega)⟩
 ·congr 1
  omega
theorem rbW_ok : SpOk Tryz.prog rbW :=
 con_ok (sps_of [rbC] ⟨rbC_ok, trivial⟩ rfl) (tab_ok _ [⟨(32, 7), [], [], [], []⟩]) 1000 rbW _ rfl rfl (Eq.mp (show rbW_VC = _ by kernel_rfl) rbW_vc)
def rIsN_pre (s : List UInt8) (m : Mem) : Prop := s.length ≤ 9223372036854775807
def rIsN_post (s : List UInt8) (m : Mem) (r : Bool) : Prop := r = nameB s
def rIsN : Sp := { args := [.s], grp := [none], res := [.b], rgrp := [none], fn := 116, spec := fun a0 => (rIsN_pre a0, rIsN_post a0) }
def rIsN_VC : Prop := ∀ m : Mem, ∀ s0 : List UInt8, rIsN_pre s0 m →
 (∃ F1 : Bool → Int → Prop × Nat, ((K.i64 0) ∧ (F1 false 0).1) ∧
 ∀ b0 : Bool, ∀ x0 : Int, mi ≤ x0 → x0 ≤ ma → (F1 b0 x0).1 →
 (∀ x1 : Int, x1 = ((s0.length : Nat) : Int) → 0 ≤ x1 ∧ x1 ≤ 9223372036854775807 ∧ ((x0 < x1 →
 ((0 ≤ x0 ∧ x0 < ((s0.length : Nat) : Int)) ∧ ∀ x2 : Int, x2 = ((((s0).getD (x0).toNat 0).toNat : Nat) : Int) → 0 ≤ x2 → x2 ≤ 255 → ((97 ≤ x2 →
 ((x2 ≤ 122 →
 ((x0 + 1) ≤ 9223372036854775807 ∧ ((mi ≤ (x0 + 1) ∧ (x0 + 1) ≤ ma) ∧ ((F1 b0 (x0 + 1)).1 ∧ (F1 b0 (x0 + 1)).2 < (F1 b0 x0).2)))) ∧
 (122 < x2 →
 (rIsN_post s0 m false)))) ∧
 (x2 < 97 →
 ((65 ≤ x2 →
 ((90 < x2 →
 ((x2 ≠ 95 →
 (rIsN_post s0 m false)) ∧
 (x2 = 95 →
 ((x0 + 1) ≤ 9223372036854775807 ∧ ((mi ≤ (x0 + 1) ∧ (x0 + 1) ≤ ma) ∧ ((F1 b0 (x0 + 1)).1 ∧ (F1 b0 (x0 + 1)).2 < (F1 b0 x0).2)))))) ∧
 (x2 ≤ 90 →
 ((x0 + 1) ≤ 9223372036854775807 ∧ ((mi ≤ (x0 + 1) ∧ (x0 + 1) ≤ ma) ∧ ((F1 b0 (x0 + 1)).1 ∧ (F1 b0 (x0 + 1)).2 < (F1 b0 x0).2)))))) ∧
 (x2 < 65 →
 ((x2 < 48 →
 ((x2 ≠ 45 →
 (rIsN_post s0 m false)) ∧
 (x2 = 45 →
 ((x0 + 1) ≤ 9223372036854775807 ∧ ((mi ≤ (x0 + 1) ∧ (x0 + 1) ≤ ma) ∧ ((F1 b0 (x0 + 1)).1 ∧ (F1 b0 (x0 + 1)).2 < (F1 b0 x0).2)))))) ∧
 (48 ≤ x2 →
 ((57 < x2 →
 (rIsN_post s0 m false)) ∧
 (x2 ≤ 57 →
 ((x0 + 1) ≤ 9223372036854775807 ∧ ((mi ≤ (x0 + 1) ∧ (x0 + 1) ≤ ma) ∧ ((F1 b0 (x0 + 1)).1 ∧ (F1 b0 (x0 + 1)).2 < (F1 b0 x0).2))))))))))))) ∧
 (x1 ≤ x0 →
 (∀ x2 : Int, x2 = ((s0.length : Nat) : Int) → 0 ≤ x2 ∧ x2 ≤ 9223372036854775807 ∧ ((1 ≤ x2 →
 (∀ x3 : Int, x3 = ((s0.length : Nat) : Int) → 0 ≤ x3 ∧ x3 ≤ 9223372036854775807 ∧ (rIsN_post s0 m (decide (x3 ≤ 24))))) ∧
 (x2 < 1 →
 (rIsN_post s0 m false))))))))
theorem rIsN_vc : rIsN_VC := by
 intro m s hs
 have hs : s.length ≤ 9223372036854775807 := hs
 have again : ∀ (b : Bool) (i : Nat), i < s.length → (s.take i).all okC = true → okN (s.getD i 0).toNat = true → (i : Int) + 1 ≤ 9223372036854775807 ∧ ((IntKind.i64.min ≤ ((i : Int) + 1) ∧ ((i : Int) + 1) ≤ IntKind.i64.max) ∧ ((∃ i' : Nat, (i : Int) + 1 = i' ∧ i' ≤ s.length ∧ (s.take i').all okC = true) ∧ ((s.length : Int) - ((i : Int) + 1)).toNat < ((s.length : Int) - (i : Int)).toNat)) := fun b i hi hall ho => by
  refine ⟨by omega, k64 (by omega) (by omega), ⟨i + 1, by omega, by omega, ?_⟩, by omega⟩
  rw [← List.take_append_getElem hi, List.all_append, hall]
  have : s.getD i 0 = s[i] := by simp [List.getD, hi]
  rw [this] at ho
  simp [okC, ho]
 have stop : ∀ (i : Nat), i < s.length → okN (s.getD i 0).toNat = false → false = nameB s := fun i hi ho => by
  have : s.getD i 0 = s[i] := by simp [List.getD, hi]
  rw [this] at ho
  have : s.all okC = false := by
   rw [List.all_eq_false]
   exact ⟨s[i], List.getElem_mem hi, by simp [okC, ho]⟩
  simp [nameB, this]
 refine ⟨fun b x => (∃ i : Nat, x = i ∧ i ≤ s.length ∧ (s.take i).all okC = true, ((s.length : Int) - x).toNat), ⟨by constructor <;> decide, 0, rfl, by omega, rfl⟩, ?_⟩
 rintro b x _ _ ⟨i, rfl, hi, hall⟩ x1 hx1
 refine ⟨by omega, by omega, fun hlt => ⟨⟨by omega, by omega⟩, fun c hc hc0 hc1 => ?_⟩, fun hge => ?_⟩
 ·rw [Int.toNat_natCast] at hc
  have hil : i < s.length := by omega
  generalize hn : (s.getD i 0).toNat = n at hc
  have ha := again b i hil hall
  have hst := stop i hil
  rw [hn] at ha hst
  subst hc
  have hst2 : okN n = false → rIsN_post s m false := hst
  refine ⟨fun q1 => ⟨fun q2 => ha ?_, fun q2 => hst2 ?_⟩, fun q1 => ⟨fun q2 => ⟨fun q3 => ⟨fun q4 => hst2 ?_, fun q4 => ha ?_⟩, fun q3 => ha ?_⟩, fun q2 => ⟨fun q3 => ⟨fun q4 => hst2 ?_, fun q4 => ha ?_⟩, fun q3 => ⟨fun q4 => hst2 ?_, fun q4 => ha ?_⟩⟩⟩⟩ <;> (simp [okN]; omega)
 ·have hil : i = s.length := by omega
  subst hil
  rw [List.take_length] at hall
  intro x2 hx2
  refine ⟨by omega, by omega, fun h1 x3 hx3 => ⟨by omega, by omega, ?_⟩, fun h1 => ?_⟩
  ·show decide (x3 ≤ 24) = nameB s
   have h0 : 1 ≤ s.length := by omega
   simp only [nameB, hall, h0, decide_true, Bool.true_and, Bool.and_true]
   rw [Bool.eq_iff_iff]
   simp
   omega
  ·show false = nameB s
   have h0 : ¬ 1 ≤ s.length := by omega
   simp [nameB, h0]
theorem rIsN_ok : SpOk Tryz.prog rIsN :=
 con_ok (sps_of [] trivial rfl) (tab_ok _ [⟨(55, 2), [], [], [], []⟩]) 1000 rIsN _ rfl rfl (Eq.mp (show rIsN_VC = _ by kernel_rfl) rIsN_vc)
def rNx_pre (a b c d seed : Int) (s : List UInt8) (due k now : Int) (m : Mem) : Prop := s.length ≤ 9223372036854775807
def rNx_post (a b c d seed : Int) (s : List UInt8) (due k now : Int) (m : Mem) (z : Int) (b0 : Bool) (e : Int) : Prop := (z, b0, e) = nxt ⟨a, b, c, d⟩ seed s due k now
def rNx : Sp := { args := [.i .i64, .i .i64, .i .i64, .i .i64, .i .u64, .s, .i .i64, .i .i64, .i .i64], grp := [some 4, none, none, none, none, none], res := [.i .i64, .b, .i .i64], rgrp := [none, none, none], fn := 42, spec := fun a0 a1 a2 a3 a4 a5 a6 a7 a8 => (rNx_pre a0 a1 a2 a3 a4 a5 a6 a7 a8, rNx_post a0 a1 a2 a3 a4 a5 a6 a7 a8) }
def rNx_VC : Prop := ∀ m : Mem, ∀ x0 : Int, mi ≤ x0 → x0 ≤ ma → ∀ x1 : Int, mi ≤ x1 → x1 ≤ ma → ∀ x2 : Int, mi ≤ x2 → x2 ≤ ma → ∀ x3 : Int, mi ≤ x3 → x3 ≤ ma → ∀ x4 : Int, IntKind.u64.min ≤ x4 → x4 ≤ IntKind.u64.max → ∀ s0 : List UInt8, ∀ x5 : Int, mi ≤ x5 → x5 ≤ ma → ∀ x6 : Int, mi ≤ x6 → x6 ≤ ma → ∀ x7 : Int, mi ≤ x7 → x7 ≤ ma → rNx_pre x0 x1 x2 x3 x4 s0 x5 x6 x7 m →
 (rbC_pre x0 x1 x2 x3 m ∧ ∀ m1 : Mem, MemSub m m1 → ∀ x8 : Int, mi ≤ x8 → x8 ≤ ma → rbC_post x0 x1 x2 x3 m1 x8 →
 ((x8 ≠ 0 →
 ((K.i64 0) ∧ (K.i64 16) ∧ rNx_post x0 x1 x2 x3 x4 s0 x5 x6 x7 m1 0 false 16)) ∧
 (x8 = 0 →
 (rIsN_pre s0 m1 ∧ ∀ m2 : Mem, MemSub m1 m2 → ∀ b0 : Bool, rIsN_post s0 m2 b0 →
 ((b0 = false →
 ((K.i64 0) ∧ (K.i64 15) ∧ rNx_post x0 x1 x2 x3 x4 s0 x5 x6 x7 m2 0 false 15)) ∧
 (b0 = true →
 ((0 ≤ x5 →
 ((253402300799 < x5 →
 ((K.i64 0) ∧ (K.i64 14) ∧ rNx_post x0 x1 x2 x3 x4 s0 x5 x6 x7 m2 0 false 14)) ∧
 (x5 ≤ 253402300799 →
 ((0 ≤ x7 →
 ((253402300799 < x7 →
 ((K.i64 0) ∧ (K.i64 14) ∧ rNx_post x0 x1 x2 x3 x4 s0 x5 x6 x7 m2 0 false 14)) ∧
 (x7 ≤ 253402300799 →
 ((x6 < 1 →
 ((K.i64 0) ∧ (K.i64 3) ∧ rNx_post x0 x1 x2 x3 x4 s0 x5 x6 x7 m2 0 false 3)) ∧
 (1 ≤ x6 →
 ((x0 + 1) ≤ 9223372036854775807 ∧ (((x0 + 1) < x6 →
 ((K.i64 0) ∧ (K.i64 3) ∧ rNx_post x0 x1 x2 x3 x4 s0 x5 x6 x7 m2 0 false 3)) ∧
 (x6 ≤ (x0 + 1) →
 ((x0 + 1) ≤ 9223372036854775807 ∧ ((x6 = (x0 + 1) →
 ((K.i64 0) ∧ (K.i64 0) ∧ rNx_post x0 x1 x2 x3 x4 s0 x5 x6 x7 m2 0 false 0)) ∧
 (x6 ≠ (x0 + 1) →
 (rbW_pre x0 x1 x2 x3 x6 m2 ∧ ∀ m3 : Mem, MemSub m2 m3 → ∀ x9 : Int, mi ≤ x9 → x9 ≤ ma → ∀ x10 : Int, mi ≤ x10 → x10 ≤ ma → rbW_post x0 x1 x2 x3 x6 m3 x9 x10 →
 (rjW_pre x4 s0 x5 x6 x3 m3 ∧ ∀ m4 : Mem, MemSub m3 m4 → ∀ x11 : Int, mi ≤ x11 → x11 ≤ ma → ∀ x12 : Int, mi ≤ x12 → x12 ≤ ma → rjW_post x4 s0 x5 x6 x3 m4 x11 x12 →
 ((-9223372036854775808 : Int) ≤ (x9 + x11) ∧ ((x9 + x11) ≤ 9223372036854775807 ∧ ((-9223372036854775808 : Int) ≤ (x7 + (x9 + x11)) ∧ ((x7 + (x9 + x11)) ≤ 9223372036854775807 ∧ ((mi ≤ (x7 + (x9 + x11)) ∧ (x7 + (x9 + x11)) ≤ ma) ∧ (K.i64 0) ∧ rNx_post x0 x1 x2 x3 x4 s0 x5 x6 x7 m4 (x7 + (x9 + x11)) true 0)))))))))))))))))) ∧
 (x7 < 0 →
 ((K.i64 0) ∧ (K.i64 14) ∧ rNx_post x0 x1 x2 x3 x4 s0 x5 x6 x7 m2 0 false 14)))))) ∧
 (x5 < 0 →
 ((K.i64 0) ∧ (K.i64 14) ∧ rNx_post x0 x1 x2 x3 x4 s0 x5 x6 x7 m2 0 false 14)))))))))
theorem rNx_vc : rNx_VC := by
 intro m a _ _ b _ _ c _ _ d _ _ seed _ _ s due _ _ k _ _ now _ _ hs
 have hs : s.length ≤ 9223372036854775807 := hs
 have kz : K.i64 0 := by constructor <;> decide
 have k14 : K.i64 14 := by constructor <;> decide
 have k3 : K.i64 3 := by constructor <;> decide
 refine ⟨trivial, fun m1 hm1 e r1 r2 he => ?_⟩
 have he : e = As.retP_ ⟨a, b, c, d⟩ := he
 refine ⟨fun hne => ⟨kz, by constructor <;> decide, ?_⟩, fun h0 => ?_⟩
 ·show (0, false, 16) = nxt ⟨a, b, c, d⟩ seed s due k now
  have h16 : As.retP_ ⟨a, b, c, d⟩ = 16 := by
   rcases retP_two ⟨a, b, c, d⟩ with g | g
   ·rw [he] at hne; exact (hne g).elim
   ·exact g
  unfold nxt
  rw [h16, if_pos (by decide)]
 have hr : As.retP_ ⟨a, b, c, d⟩ = 0 := by rw [← he]; exact h0
 have ho := ret_ok hr
 simp only at ho
 have hx : nxt ⟨a, b, c, d⟩ seed s due k now = if nameB s = false then (0, false, 15) else if due < 0 ∨ 253402300799 < due then (0, false, 14) else if now < 0 ∨ 253402300799 < now then (0, false, 14) else if k < 1 ∨ a + 1 < k then (0, false, 3) else if k = a + 1 then (0, false, 0) else (now + (bkN b c (k - 1).toNat + jitV seed s due k d), true, 0) := by
  unfold nxt
  rw [if_neg (by rw [hr]; simp)]
 refine ⟨hs, fun m2 hm2 b0 hb => ?_⟩
 have hb : b0 = nameB s := hb
 refine ⟨fun h => ⟨kz, by constructor <;> decide, ?_⟩, fun h => ?_⟩
 ·show (0, false, 15) = nxt ⟨a, b, c, d⟩ seed s due k now
  rw [hx, if_pos (by rw [← hb]; exact h)]
 have hn : ¬ nameB s = false := by rw [← hb, h]; simp
 have b14 : (due < 0 ∨ 253402300799 < due) ∨ (now < 0 ∨ 253402300799 < now) → rNx_post a b c d seed s due k now m2 0 false 14 := fun g => by
  show (0, false, 14) = nxt ⟨a, b, c, d⟩ seed s due k now
  rw [hx, if_neg hn]
  by_cases hd : due < 0 ∨ 253402300799 < due
  ·rw [if_pos hd]
  ·rw [if_neg hd, if_pos (g.resolve_left hd)]
 refine ⟨fun h1 => ⟨fun h2 => ⟨kz, k14, b14 (by omega)⟩, fun h2 => ⟨fun h3 => ⟨fun h4 => ⟨kz, k14, b14 (by omega)⟩, fun h4 => ?_⟩, fun h3 => ⟨kz, k14, b14 (by omega)⟩⟩⟩, fun h1 => ⟨kz, k14, b14 (by omega)⟩⟩
 have hd : ¬ (due < 0 ∨ 253402300799 < due) := by omega
 have hw : ¬ (now < 0 ∨ 253402300799 < now) := by omega
 rw [if_neg hn, if_neg hd, if_neg hw] at hx
 refine ⟨fun h5 => ⟨kz, k3, ?_⟩, fun h5 => ⟨by omega, fun h6 => ⟨kz, k3, ?_⟩, fun h6 => ⟨by omega, fun h7 => ⟨kz, kz, ?_⟩, fun h7 => ?_⟩⟩⟩
 ·show (0, false, 3) = nxt ⟨a, b, c, d⟩ seed s due k now
  rw [hx, if_pos (by omega)]
 ·show (0, false, 3) = nxt ⟨a, b, c, d⟩ seed s due k now
  rw [hx, if_pos (by omega)]
 ·show (0, false, 0) = nxt ⟨a, b, c, d⟩ seed s due k now
  rw [hx, if_neg (by omega), if_pos h7]
 ·refine ⟨trivial, fun m3 hm3 x9 _ _ x10 _ _ hW => ⟨hs, fun m4 hm4 x11 _ _ x12 _ _ hJ => ?_⟩⟩
  obtain ⟨hW, _⟩ := hW hr (by omega) (by omega)
  obtain ⟨_, hJ2⟩ := hJ
  have hjE2 : jitE s due k d = 0 := by unfold jitE; rw [if_neg hn, if_neg hd, if_neg (by omega)]
  rw [if_pos hjE2] at hJ2
  obtain ⟨w1, w2⟩ := bkN_rng (b := b) (c := c) (by omega) (by omega) (k - 1).toNat
  obtain ⟨j1, j2, _, _⟩ := jitV_rng seed s due k (len := d) (by omega) (by omega)
  rw [← hW] at w1 w2
  rw [← hJ2] at j1 j2
  refine ⟨by omega, by omega, by omega, by omega, k64 (by omega) (by omega), kz, ?_⟩
  show (now + (x9 + x11), true, 0) = nxt ⟨a, b, c, d⟩ seed s due k now
  rw [hx, if_neg (by omega), if_neg h7, hW, hJ2]
theorem rNx_ok : SpOk Tryz.prog rNx :=
 con_ok (sps_of [rbC, rbW, rjW, rIsN] ⟨rbC_ok, ⟨rbW_ok, ⟨rjW_ok, ⟨rIsN_ok, trivial⟩⟩⟩⟩ rfl) (tab_ok _ []) 1000 rNx _ rfl rfl (Eq.mp (show rNx_VC = _ by kernel_rfl) rNx_vc)
end Go.Proofs.YtmpbddmbpeoehaaGreatDoor.Vc
