/-
  Contracts, by their trees; Contracts, by their trees; Waits between attempts: plain; Contracts, by their trees.
-/
import Derived.Test.YtmpbddmbpeoehaaGreatDoorWH
import Derived.Test.YtmpbddmbpeoehaaGreatDoorWG
import Derived.Test.YtmpbddmbpeoehaaGreatDoorWI
set_option linter.unusedVariables false
set_option linter.unusedSimpArgs false
set_option maxRecDepth 20000
set_option maxHeartbeats 4000000
namespace Go.Proofs.YtmpbddmbpeoehaaGreatDoor.Vc
abbrev u64I (z : Int) : Prop := 0 ≤ z ∧ z ≤ 18446744073709551615
theorem wrapI_rng (k : IntKind) (z : Int) : k.min ≤ k.wrap z ∧ k.wrap z ≤ k.max := by
 cases k <;> simp [IntKind.min, IntKind.max, IntKind.wrap, IntKind.signed, IntKind.bits] <;> (try split) <;> omega
theorem wrapU_rng (z : Int) : u64I (IntKind.u64.wrap z) := wrapI_rng .u64 z
theorem mul64_rng (x y : Int) : u64I (arithV .mul .u64 x y) := wrapI_rng .u64 _
theorem and64_rng (x y : Int) : u64I (arithV .and .u64 x y) := wrapI_rng .u64 _
theorem xor64_rng (x y : Int) : u64I (arithV .xor .u64 x y) := wrapI_rng .u64 _
theorem shr64 {x : Int} (h : 0 ≤ x) (s : Nat) (hs : s ≤ 64) : arithV .shr .u64 x (s : Int) = x / ((2 ^ s : Nat) : Int) := by
 show x.fdiv (2 ^ (min (s : Int).toNat 64)) = _
 rw [Int.toNat_natCast, Nat.min_eq_left hs, Int.fdiv_eq_ediv_of_nonneg _ (Int.le_of_lt (Int.pow_pos (by decide)))]
 rw [Int.natCast_pow]
 rfl
theorem shr64_rng {x : Int} (h : u64I x) (s : Nat) (hs : s ≤ 64) : u64I (arithV .shr .u64 x (s : Int)) := by
 rw [shr64 h.1 s hs]
 have hp : (0 : Int) ≤ ((2 ^ s : Nat) : Int) := Int.natCast_nonneg _
 have h1 := Int.ediv_nonneg h.1 hp
 have h2 := Int.ediv_le_self ((2 ^ s : Nat) : Int) h.1
 have h3 := h.2
 exact ⟨h1, by omega⟩
theorem mask64 {x : Int} (h : u64I x) : arithV .and .u64 x 4294967295 = x % 4294967296 := by
 obtain ⟨n, rfl⟩ := Int.eq_ofNat_of_zero_le h.1
 have hn : n < 18446744073709551616 := by have := h.2; omega
 show IntKind.u64.wrap (BitVec.ofInt 64 (n : Int) &&& BitVec.ofInt 64 4294967295).toNat = _
 have e1 : BitVec.ofInt 64 (n : Int) = BitVec.ofNat 64 n := BitVec.ofInt_natCast ..
 have e2 : BitVec.ofInt 64 4294967295 = BitVec.ofNat 64 4294967295 := BitVec.ofInt_natCast 64 4294967295
 rw [e1, e2, BitVec.toNat_and, BitVec.toNat_ofNat, BitVec.toNat_ofNat, Nat.mod_eq_of_lt hn, Nat.mod_eq_of_lt (by decide : 4294967295 < 2 ^ 64)]
 have e3 : n &&& 4294967295 = n % 4294967296 := Nat.and_two_pow_sub_one_eq_mod n 32
 rw [e3, wrap_id (by show (0 : Int) ≤ _; omega) (by show ((n % 4294967296 : Nat) : Int) ≤ 18446744073709551615; omega)]
 omega
theorem mul64_at {x y : Int} (h0 : 0 ≤ x * y) (h1 : x * y ≤ 18446744073709551615) : arithV .mul .u64 x y = x * y := by
 show IntKind.u64.wrap (x * y) = x * y
 exact wrap_id h0 h1
theorem wrapU_at {x : Int} (h0 : 0 ≤ x) (h1 : x ≤ 18446744073709551615) : IntKind.u64.wrap x = x := wrap_id h0 h1
theorem mul_part {x y : Int} (hx : 0 ≤ x ∧ x ≤ 4294967295) (hy : 0 ≤ y ∧ y ≤ 4294967295) : 0 ≤ x * y ∧ x * y ≤ 18446744065119617025 := by
 refine ⟨Int.mul_nonneg hx.1 hy.1, ?_⟩
 have := Int.mul_le_mul hx.2 hy.2 hy.1 (by decide)
 omega
def belowH (x n : Int) : Int := x * n / 18446744073709551616
theorem below_hi {x n x2 x3 x4 x5 x6 x7 x8 x9 x10 x11 x12 x13 x14 x16 : Int} (hx : u64I x) (hn : u64I n) (e2 : x2 = x % 4294967296) (e3 : x3 = x / 4294967296) (e4 : x4 = n % 4294967296) (e5 : x5 = n / 4294967296)
  (e6 : x6 = x2 * x4) (e7 : x7 = x3 * x4) (e8 : x8 = x6 / 4294967296) (e9 : x9 = x7 + x8) (e10 : x10 = x9 % 4294967296) (e11 : x11 = x9 / 4294967296) (e12 : x12 = x2 * x5) (e13 : x13 = x10 + x12) (e14 : x14 = x3 * x5) (e16 : x16 = x13 / 4294967296) : x14 + x11 + x16 = belowH x n := by
 have a1 : x = x3 * 4294967296 + x2 := by omega
 have a2 : n = x5 * 4294967296 + x4 := by omega
 have key : x * n = x14 * 18446744073709551616 + (x7 + x12) * 4294967296 + x6 := by
  rw [e14, e7, e12, e6]
  conv => lhs; rw [a1, a2]
  rw [Int.add_mul, Int.mul_add, Int.mul_add, Int.add_mul]
  have t1 : x3 * 4294967296 * (x5 * 4294967296) = x3 * x5 * 18446744073709551616 := by
   rw [Int.mul_assoc, Int.mul_left_comm 4294967296, Int.mul_assoc]; rfl
  have t2 : x3 * 4294967296 * x4 = x3 * x4 * 4294967296 := by rw [Int.mul_assoc, Int.mul_comm 4294967296, Int.mul_assoc]
  have t3 : x2 * (x5 * 4294967296) = x2 * x5 * 4294967296 := by rw [Int.mul_assoc]
  rw [t1, t2, t3]
  omega
 unfold belowH
 rw [key]
 have b2 : 0 ≤ x2 ∧ x2 ≤ 4294967295 := by omega
 have b4 : 0 ≤ x4 ∧ x4 ≤ 4294967295 := by omega
 have m6 := mul_part b2 b4
 rw [← e6] at m6
 clear key a1 a2
 generalize x * n = p at *
 omega
theorem below_rng {x n : Int} (hx : u64I x) (hn : u64I n) : u64I (belowH x n) ∧ (n ≠ 0 → belowH x n < n) := by
 have h1 : 0 ≤ x * n := Int.mul_nonneg hx.1 hn.1
 have h2 : x * n ≤ 18446744073709551615 * n := Int.mul_le_mul_of_nonneg_right hx.2 hn.1
 unfold belowH
 have := hn.2
 have := hn.1
 generalize x * n = p at *
 exact ⟨⟨by omega, by omega⟩, fun h => by omega⟩
def mxStep (s k : Int) (x : Int) : Int := arithV .mul .u64 (arithV .xor .u64 x (arithV .shr .u64 x s)) k
def mixH (x : Int) : Int := mxStep 31 1 (mxStep 27 10723151780598845931 (mxStep 30 13787848793156543929 x))
theorem mix_rng (x : Int) : u64I (mixH x) := mul64_rng _ _
def mMix_pre (x : Int) (m : Mem) : Prop := Globs m glMx
def mMix_post (x : Int) (m : Mem) (z : Int) : Prop := z = mixH x
def mMix : Sp := { args := [.i .u64], grp := [none], res := [.i .u64], rgrp := [none], fn := 170, spec := fun a0 => (mMix_pre a0, mMix_post a0) }
def mMix_VC : Prop := ∀ m : Mem, ∀ x0 : Int, IntKind.u64.min ≤ x0 → x0 ≤ IntKind.u64.max → mMix_pre x0 m →
 (arithP BinOp.shr 30 ∧ ∀ x1 : Int, x1 = arithV BinOp.shr IntKind.u64 x0 30 → (K.u64 x1) ∧ (arithP BinOp.xor x1 ∧ ∀ x2 : Int, x2 = arithV BinOp.xor IntKind.u64 x0 x1 → (K.u64 x2) ∧ (arithP BinOp.mul 13787848793156543929 ∧ ∀ x3 : Int, x3 = arithV BinOp.mul IntKind.u64 x2 13787848793156543929 → (K.u64 x3) ∧ (arithP BinOp.shr 27 ∧ ∀ x4 : Int, x4 = arithV BinOp.shr IntKind.u64 x3 27 → (K.u64 x4) ∧ (arithP BinOp.xor x4 ∧ ∀ x5 : Int, x5 = arithV BinOp.xor IntKind.u64 x3 x4 → (K.u64 x5) ∧ (arithP BinOp.mul 10723151780598845931 ∧ ∀ x6 : Int, x6 = arithV BinOp.mul IntKind.u64 x5 10723151780598845931 → (K.u64 x6) ∧ (arithP BinOp.shr 31 ∧ ∀ x7 : Int, x7 = arithV BinOp.shr IntKind.u64 x6 31 → (K.u64 x7) ∧ (arithP BinOp.xor x7 ∧ ∀ x8 : Int, x8 = arithV BinOp.xor IntKind.u64 x6 x7 → (K.u64 x8) ∧ (arithP BinOp.mul 1 ∧ ∀ x9 : Int, x9 = arithV BinOp.mul IntKind.u64 x8 1 → (K.u64 x9) ∧ ((K.u64 x9) ∧ mMix_post x0 m x9))))))))))
theorem mMix_vc : mMix_VC := by
 intro m x h1 h2 _
 have hx : u64I x := ⟨h1, h2⟩
 refine ⟨(by show (0 : Int) ≤ 30; decide), fun x1 e1 => ⟨by rw [e1]; exact shr64_rng hx 30 (by decide), trivial, fun x2 e2 => ⟨by rw [e2]; exact xor64_rng _ _, trivial, fun x3 e3 => ⟨by rw [e3]; exact mul64_rng _ _, (by show (0 : Int) ≤ 27; decide), fun x4 e4 => ⟨by rw [e4]; exact shr64_rng (by rw [e3]; exact mul64_rng _ _) 27 (by decide), trivial, fun x5 e5 => ⟨by rw [e5]; exact xor64_rng _ _, trivial, fun x6 e6 => ⟨by rw [e6]; exact mul64_rng _ _, (by show (0 : Int) ≤ 31; decide), fun x7 e7 => ⟨by rw [e7]; exact shr64_rng (by rw [e6]; exact mul64_rng _ _) 31 (by decide), trivial, fun x8 e8 => ⟨by rw [e8]; exact xor64_rng _ _, trivial, fun x9 e9 => ?_⟩⟩⟩⟩⟩⟩⟩⟩⟩
 have hr : u64I x9 := by rw [e9]; exact mul64_rng _ _
 refine ⟨hr, hr, ?_⟩
 show x9 = mixH x
 rw [e9, e8, e7, e6, e5, e4, e3, e2, e1]
 rfl
theorem mMix_pg : ∀ m, forallF mMix.args mMix.spec fun r => r.1 m → GlobsAt m glMx := fun m a h => h.h
theorem mMix_ok : SpOk Tryz.prog mMix :=
 con_okG glMx rfl (sps_of [] trivial rfl) (tab_ok _ []) 1000 mMix _ rfl rfl mMix_pg (Eq.mp (show mMix_VC = _ by kernel_rfl) mMix_vc)
def mBel_pre (x n : Int) (m : Mem) : Prop := True
def mBel_post (x n : Int) (m : Mem) (z e : Int) : Prop := (n = 0 → z = 0 ∧ e = 2) ∧ (n ≠ 0 → z = belowH x n ∧ e = 0)
def mBel : Sp := { args := [.i .u64, .i .u64], grp := [none, none], res := [.i .u64, .i .i64], rgrp := [none, none], fn := 169, spec := fun a0 a1 => (mBel_pre a0 a1, mBel_post a0 a1) }
def mBel_VC : Prop := ∀ m : Mem, ∀ x0 : Int, IntKind.u64.min ≤ x0 → x0 ≤ IntKind.u64.max → ∀ x1 : Int, IntKind.u64.min ≤ x1 → x1 ≤ IntKind.u64.max → mBel_pre x0 x1 m →
 ((x1 = 0 →
 ((K.u64 0) ∧ (K.i64 2) ∧ mBel_post x0 x1 m 0 2)) ∧
 (x1 ≠ 0 →
 (arithP BinOp.and 4294967295 ∧ ∀ x2 : Int, x2 = arithV BinOp.and IntKind.u64 x0 4294967295 → (K.u64 x2) ∧ (arithP BinOp.shr 32 ∧ ∀ x3 : Int, x3 = arithV BinOp.shr IntKind.u64 x0 32 → (K.u64 x3) ∧ (arithP BinOp.and 4294967295 ∧ ∀ x4 : Int, x4 = arithV BinOp.and IntKind.u64 x1 4294967295 → (K.u64 x4) ∧ (arithP BinOp.shr 32 ∧ ∀ x5 : Int, x5 = arithV BinOp.shr IntKind.u64 x1 32 → (K.u64 x5) ∧ (arithP BinOp.mul x4 ∧ ∀ x6 : Int, x6 = arithV BinOp.mul IntKind.u64 x2 x4 → (K.u64 x6) ∧ (arithP BinOp.mul x4 ∧ ∀ x7 : Int, x7 = arithV BinOp.mul IntKind.u64 x3 x4 → (K.u64 x7) ∧ (arithP BinOp.shr 32 ∧ ∀ x8 : Int, x8 = arithV BinOp.shr IntKind.u64 x6 32 → (K.u64 x8) ∧ (∀ x9 : Int, x9 = IntKind.u64.wrap (x7 + x8) → IntKind.u64.min ≤ x9 → x9 ≤ IntKind.u64.max → (arithP BinOp.and 4294967295 ∧ ∀ x10 : Int, x10 = arithV BinOp.and IntKind.u64 x9 4294967295 → (K.u64 x10) ∧ (arithP BinOp.shr 32 ∧ ∀ x11 : Int, x11 = arithV BinOp.shr IntKind.u64 x9 32 → (K.u64 x11) ∧ (arithP BinOp.mul x5 ∧ ∀ x12 : Int, x12 = arithV BinOp.mul IntKind.u64 x2 x5 → (K.u64 x12) ∧ (∀ x13 : Int, x13 = IntKind.u64.wrap (x10 + x12) → IntKind.u64.min ≤ x13 → x13 ≤ IntKind.u64.max → (arithP BinOp.mul x5 ∧ ∀ x14 : Int, x14 = arithV BinOp.mul IntKind.u64 x3 x5 → (K.u64 x14) ∧ (∀ x15 : Int, x15 = IntKind.u64.wrap (x14 + x11) → IntKind.u64.min ≤ x15 → x15 ≤ IntKind.u64.max → (arithP BinOp.shr 32 ∧ ∀ x16 : Int, x16 = arithV BinOp.shr IntKind.u64 x13 32 → (K.u64 x16) ∧ (∀ x17 : Int, x17 = IntKind.u64.wrap (x15 + x16) → IntKind.u64.min ≤ x17 → x17 ≤ IntKind.u64.max → (arithP BinOp.mul x1 ∧ ∀ x18 : Int, x18 = arithV BinOp.mul IntKind.u64 x0 x1 → (K.u64 x18) ∧ ((K.u64 x17) ∧ (K.i64 0) ∧ mBel_post x0 x1 m x17 0))))))))))))))))))))
theorem mBel_vc : mBel_VC := by
 intro m x a1 a2 n b1 b2 _
 have hx : u64I x := ⟨a1, a2⟩
 have hn : u64I n := ⟨b1, b2⟩
 have k0 : IntKind.u64.min ≤ 0 ∧ 0 ≤ IntKind.u64.max := by constructor <;> decide
 refine ⟨fun h => ⟨k0, by constructor <;> decide, fun _ => ⟨rfl, rfl⟩, fun g => (g h).elim⟩, fun h => ?_⟩
 refine ⟨trivial, ?_⟩
 intro x2 e2
 refine ⟨by rw [e2]; exact and64_rng _ _, ?_⟩
 refine ⟨(by show (0 : Int) ≤ 32; decide), ?_⟩
 intro x3 e3
 refine ⟨by rw [e3]; exact shr64_rng hx 32 (by decide), ?_⟩
 refine ⟨trivial, ?_⟩
 intro x4 e4
 refine ⟨by rw [e4]; exact and64_rng _ _, ?_⟩
 refine ⟨(by show (0 : Int) ≤ 32; decide), ?_⟩
 intro x5 e5
 refine ⟨by rw [e5]; exact shr64_rng hn 32 (by decide), ?_⟩
 refine ⟨trivial, ?_⟩
 intro x6 e6
 refine ⟨by rw [e6]; exact mul64_rng _ _, ?_⟩
 refine ⟨trivial, ?_⟩
 intro x7 e7
 refine ⟨by rw [e7]; exact mul64_rng _ _, ?_⟩
 refine ⟨(by show (0 : Int) ≤ 32; decide), ?_⟩
 intro x8 e8
 refine ⟨by rw [e8]; exact shr64_rng (by rw [e6]; exact mul64_rng _ _) 32 (by decide), ?_⟩
 intro x9 e9 r9 s9
 refine ⟨trivial, ?_⟩
 intro x10 e10
 refine ⟨by rw [e10]; exact and64_rng _ _, ?_⟩
 refine ⟨(by show (0 : Int) ≤ 32; decide), ?_⟩
 intro x11 e11
 refine ⟨by rw [e11]; exact shr64_rng ⟨r9, s9⟩ 32 (by decide), ?_⟩
 refine ⟨trivial, ?_⟩
 intro x12 e12
 refine ⟨by rw [e12]; exact mul64_rng _ _, ?_⟩
 intro x13 e13 r13 s13
 refine ⟨trivial, ?_⟩
 intro x14 e14
 refine ⟨by rw [e14]; exact mul64_rng _ _, ?_⟩
 intro x15 e15 r15 s15
 refine ⟨(by show (0 : Int) ≤ 32; decide), ?_⟩
 intro x16 e16
 refine ⟨by rw [e16]; exact shr64_rng ⟨r13, s13⟩ 32 (by decide), ?_⟩
 intro x17 e17 r17 s17
 refine ⟨trivial, ?_⟩
 intro x18 e18
 refine ⟨by rw [e18]; exact mul64_rng _ _, ?_⟩
 refine ⟨⟨r17, s17⟩, by constructor <;> decide, fun g => (h g).elim, fun _ => ⟨?_, rfl⟩⟩
 have sh : ∀ z : Int, 0 ≤ z → arithV .shr .u64 z 32 = z / 4294967296 := fun z hz => shr64 hz 32 (by decide)
 rw [mask64 hx] at e2
 rw [sh x hx.1] at e3
 rw [mask64 hn] at e4
 rw [sh n hn.1] at e5
 have hx2 := hx.2; have hn2 := hn.2; have hx1 := hx.1; have hn1 := hn.1
 have b2 : 0 ≤ x2 ∧ x2 ≤ 4294967295 := by omega
 have b3 : 0 ≤ x3 ∧ x3 ≤ 4294967295 := by omega
 have b4 : 0 ≤ x4 ∧ x4 ≤ 4294967295 := by omega
 have b5 : 0 ≤ x5 ∧ x5 ≤ 4294967295 := by omega
 have m6 := mul_part b2 b4
 have m7 := mul_part b3 b4
 have m12 := mul_part b2 b5
 have m14 := mul_part b3 b5
 rw [mul64_at m6.1 (by omega)] at e6
 rw [mul64_at m7.1 (by omega)] at e7
 rw [mul64_at m12.1 (by omega)] at e12
 rw [mul64_at m14.1 (by omega)] at e14
 rw [← e6] at m6
 rw [← e7] at m7
 rw [← e12] at m12
 rw [← e14] at m14
 rw [sh x6 m6.1] at e8
 rw [wrapU_at (by omega) (by omega)] at e9
 rw [mask64 ⟨r9, s9⟩] at e10
 have r9' : (0 : Int) ≤ x9 := r9
 have s9' : x9 ≤ 18446744073709551615 := s9
 rw [sh x9 r9'] at e11
 rw [wrapU_at (by omega) (by omega)] at e13
 have r13' : (0 : Int) ≤ x13 := r13
 rw [sh x13 r13'] at e16
 have key := below_hi hx hn e2 e3 e4 e5 e6 e7 e8 e9 e10 e11 e12 e13 e14 e16
 have kr := (below_rng hx hn).1
 rw [wrapU_at (by omega) (by omega)] at e15
 rw [e17, e15, key]
 exact wrapU_at kr.1 kr.2
theorem mBel_ok : SpOk Tryz.prog mBel :=
 con_ok (sps_of [] trivial rfl) (tab_ok _ []) 1000 mBel _ rfl rfl (Eq.mp (show mBel_VC = _ by kernel_rfl) mBel_vc)
end Go.Proofs.YtmpbddmbpeoehaaGreatDoor.Vc
namespace Go.Proofs.YtmpbddmbpeoehaaGreatDoor.Vc
def hOne (h b : Int) : Int := arithV .mul .u64 (arithV .xor .u64 h b) 1099511628211
def hFold (h : Int) (bs : List Int) : Int := bs.foldl hOne h
theorem hFold_snoc (h : Int) (bs : List Int) (b : Int) : hFold h (bs ++ [b]) = hOne (hFold h bs) b := by unfold hFold; rw [List.foldl_append]; rfl
theorem hFold_rng {h : Int} (hh : u64I h) (bs : List Int) : u64I (hFold h bs) := by
 rcases List.eq_nil_or_concat bs with e | ⟨l, b, e⟩
 ·rw [e]; exact hh
 ·rw [e, List.concat_eq_append, hFold_snoc]; exact mul64_rng _ _
def byI (s : List UInt8) : List Int := s.map fun b => (b.toNat : Int)
def hTxt (h : Int) (s : List UInt8) : Int := hFold h (byI s)
def nByte (n : Int) (i : Nat) : Int := IntKind.u8.wrap (arithV .shr .u64 (IntKind.u64.wrap n) ((8 * i : Nat) : Int))
def nBytes (n : Int) : List Int := [nByte n 0, nByte n 1, nByte n 2, nByte n 3, nByte n 4, nByte n 5, nByte n 6, nByte n 7]
def hNumV (h n : Int) : Int := hFold h (nBytes n)
theorem wrap8 (z : Int) : 0 ≤ IntKind.u8.wrap z ∧ IntKind.u8.wrap z ≤ 255 := wrapI_rng .u8 z
theorem nBytes_rng (n : Int) : ∀ x ∈ nBytes n, 0 ≤ x ∧ x ≤ 255 := by
 intro x hx
 simp only [nBytes, List.mem_cons, List.not_mem_nil, or_false] at hx
 rcases hx with rfl | rfl | rfl | rfl | rfl | rfl | rfl | rfl <;> exact wrap8 _
theorem byI_ofNat : ∀ {ns : List Int}, (∀ x ∈ ns, 0 ≤ x ∧ x ≤ 255) → byI (ns.map fun n => UInt8.ofNat n.toNat) = ns := by
 intro ns
 induction ns with
 | nil => intro _; rfl
 | cons x ns ih =>
  intro h
  obtain ⟨h1, h2⟩ := h x (List.mem_cons_self ..)
  have := ih (fun y hy => h y (List.mem_cons_of_mem _ hy))
  simp only [byI, List.map_cons] at this ⊢
  rw [this]
  congr 1
  rw [UInt8.toNat_ofNat']
  omega
theorem txt_loop {s : List UInt8} {n0 : Nat} {r0 : List Value} {p0 : Addr} {h0 : Int} {Q : Int → Prop} (hl : ((s.length : Nat) : Int) ≤ 9223372036854775807) (hn : n0 = s.length) (hr : r0 = s.map (fun b => Value.int IntKind.u8 (b.toNat : Int))) (hh : u64I h0) (hQ : Q (hTxt h0 s)) :
  (∃ F1 : Int → Int → Prop × Nat, ((K.i64 0) ∧ (K.u64 h0) ∧ (F1 0 h0).1) ∧
   ∀ x2 : Int, IntKind.i64.min ≤ x2 → x2 ≤ IntKind.i64.max → ∀ x3 : Int, IntKind.u64.min ≤ x3 → x3 ≤ IntKind.u64.max → (F1 x2 x3).1 →
   ((x2 < (n0 : Int) →
   (0 ≤ x2 ∧ ((some p0) ≠ none ∧ ((0 ≤ (0 + x2) ∧ (0 + x2) + 1 ≤ (r0.length : Int)) ∧ (∃ x4 : Int, rowI r0 (0 + x2) = some (Value.int IntKind.u8 x4) ∧ (K.u8 x4) ∧ (arithP BinOp.xor x4 ∧ ∀ x5 : Int, x5 = arithV BinOp.xor IntKind.u64 x3 x4 → (K.u64 x5) ∧ (arithP BinOp.mul 1099511628211 ∧ ∀ x6 : Int, x6 = arithV BinOp.mul IntKind.u64 x5 1099511628211 → (K.u64 x6) ∧ ((x2 + 1) ≤ 9223372036854775807 ∧ ((IntKind.i64.min ≤ (x2 + 1) ∧ (x2 + 1) ≤ IntKind.i64.max) ∧ (K.u64 x6) ∧ ((F1 (x2 + 1) x6).1 ∧ (F1 (x2 + 1) x6).2 < (F1 x2 x3).2)))))))))) ∧
   ((n0 : Int) ≤ x2 → Q x3))) := by
 subst hn
 refine ⟨fun x2 x3 => (∃ i : Nat, x2 = i ∧ i ≤ s.length ∧ x3 = hTxt h0 (s.take i), ((s.length : Int) - x2).toNat), ⟨by constructor <;> decide, hh, 0, rfl, Nat.zero_le _, rfl⟩, ?_⟩
 rintro x2 k1 k2 x3 k3 k4 ⟨i, rfl, hi, rfl⟩
 refine ⟨fun hlt => ?_, fun hge => ?_⟩
 ·have hil : i < s.length := by omega
  have hg : r0[i]? = some (.int .u8 ((s[i].toNat : Nat) : Int)) := by rw [hr, List.getElem?_map, List.getElem?_eq_getElem hil]; rfl
  have hb : s[i].toNat < 256 := s[i].toNat_lt
  have hrl : r0.length = s.length := by rw [hr, List.length_map]
  refine ⟨by omega, by simp, ⟨by omega, by omega⟩, ((s[i].toNat : Nat) : Int), (by show rowI r0 (0 + (i : Int)) = _; rw [Int.zero_add]; show (match r0[i]? with | some v => oneV v | none => none) = _; rw [hg]; rfl), ⟨by show (0 : Int) ≤ _; omega, by show ((s[i].toNat : Nat) : Int) ≤ 255; omega⟩, trivial, fun x5 e5 => ⟨by rw [e5]; exact xor64_rng _ _, trivial, fun x6 e6 => ⟨by rw [e6]; exact mul64_rng _ _, by omega, ⟨by show (-9223372036854775808 : Int) ≤ _; omega, by show _ ≤ (9223372036854775807 : Int); omega⟩, by rw [e6]; exact mul64_rng _ _, ⟨i + 1, by omega, by omega, ?_⟩, by first | omega | (simp only; omega)⟩⟩⟩
  rw [e6, e5]
  show hOne _ _ = _
  rw [← List.take_append_getElem hil]
  unfold hTxt byI
  rw [List.map_append, List.map_cons, List.map_nil, hFold_snoc]
 ·obtain rfl : i = s.length := by omega
  rw [List.take_length]
  exact hQ
end Go.Proofs.YtmpbddmbpeoehaaGreatDoor.Vc
namespace Go.Proofs.YtmpbddmbpeoehaaGreatDoor.Vc
open As
def keyH (seed : Int) (name : List UInt8) (due k : Int) : Int := hNumV (hNumV (hNumV (hTxt 14695981039346656037 name) (IntKind.i64.wrap seed)) due) k
def jitE (name : List UInt8) (due k len : Int) : Int := if nameB name = false then 15 else if due < 0 ∨ 253402300799 < due then 14 else if k < 1 ∨ 21 < k ∨ len < 0 ∨ 68719476736 < len then 2 else 0
def jitV (seed : Int) (name : List UInt8) (due k len : Int) : Int := belowH (mixH (keyH seed name due k)) len
theorem jitV_rng (seed : Int) (name : List UInt8) (due k : Int) {len : Int} (h0 : 0 ≤ len) (h1 : len ≤ 68719476736) : 0 ≤ jitV seed name due k len ∧ jitV seed name due k len ≤ 68719476736 ∧ (len ≠ 0 → jitV seed name due k len < len) ∧ (len = 0 → jitV seed name due k len = 0) := by
 obtain ⟨h2, h3⟩ := below_rng (mix_rng (keyH seed name due k)) (n := len) ⟨h0, by omega⟩
 unfold jitV
 refine ⟨h2.1, ?_, h3, fun h => ?_⟩
 ·by_cases h : len = 0
  ·have : belowH (mixH (keyH seed name due k)) len = 0 := by rw [h]; unfold belowH; rw [Int.mul_zero]; rfl
   omega
  ·have := h3 h; omega
 ·rw [h]; unfold belowH; rw [Int.mul_zero]; rfl
def bkN (b c : Int) : Nat → Int
 | 0 => b
 | n + 1 => min (bkN b c n + bkN b c n) c
theorem bkN_rng {b c : Int} (hb : 1 ≤ b) (hc : b ≤ c) : ∀ n, 1 ≤ bkN b c n ∧ bkN b c n ≤ c := by
 intro n
 induction n with
 | zero => exact ⟨hb, hc⟩
 | succ n ih => simp only [bkN]; omega
theorem ret_ok {r : Ret} (h : retP_ r = 0) : (r.max_ = 0 ∧ r.base = 0 ∧ r.cap = 0 ∧ r.jit = 0) ∨ ((1 ≤ r.max_ ∧ r.max_ ≤ 20) ∧ (1 ≤ r.base ∧ r.base ≤ r.cap) ∧ r.cap ≤ 68719476736 ∧ (0 ≤ r.jit ∧ r.jit ≤ 68719476736)) := by
 unfold retP_ at h
 split at h
 ·rename_i h0; left; rw [h0]; exact ⟨rfl, rfl, rfl, rfl⟩
 ·right
  rw [rule_zero] at h
  have h1 := h _ (List.mem_cons_self ..)
  have h2 := h (inB r.base 1 spanM) (by simp)
  have h3 := h (inB r.cap r.base spanM) (by simp)
  have h4 := h (inB r.jit 0 spanM) (by simp)
  simp only [inB, Bool.and_eq_true, decide_eq_true_eq, spanM] at h1 h2 h3 h4
  omega
def nxt (r : Ret) (seed : Int) (name : List UInt8) (due k now : Int) : Int × Bool × Int :=
 if retP_ r ≠ 0 then (0, false, retP_ r)
 else if nameB name = false then (0, false, 15)
 else if due < 0 ∨ 253402300799 < due then (0, false, 14)
 else if now < 0 ∨ 253402300799 < now then (0, false, 14)
 else if k < 1 ∨ r.max_ + 1 < k then (0, false, 3)
 else if k = r.max_ + 1 then (0, false, 0)
 else (now + (bkN r.base r.cap (k - 1).toNat + jitV seed name due k r.jit), true, 0)
theorem nxt_at {r : Ret} {seed : Int} {name : List UInt8} {due k now : Int} (h1 : retP_ r = 0) (h2 : nameB name = true) (h3 : 0 ≤ due ∧ due ≤ 253402300799) (h4 : 0 ≤ now ∧ now ≤ 253402300799) (h5 : 1 ≤ k ∧ k ≤ r.max_) : nxt r seed name due k now = (now + (bkN r.base r.cap (k - 1).toNat + jitV seed name due k r.jit), true, 0) := by
 unfold nxt
 rw [if_neg (by rw [h1]; simp), if_neg (by rw [h2]; simp), if_neg (by omega), if_neg (by omega), if_neg (by omega), if_neg (by omega)]
end Go.Proofs.YtmpbddmbpeoehaaGreatDoor.Vc
namespace Go.Proofs.YtmpbddmbpeoehaaGreatDoor.Vc
open As
def hKey_pre (seed : Int) (s : List UInt8) (due k : Int) (m : Mem) : Prop := s.length ≤ 9223372036854775807
def hKey_post (seed : Int) (s : List UInt8) (due k : Int) (m : Mem) (z : Int) : Prop := z = keyH seed s due k
def hKey : Sp := { args := [.i .u64, .s, .i .i64, .i .i64], grp := [none, none, none, none], res := [.i .u64], rgrp := [none], fn := 171, spec := fun a0 a1 a2 a3 => (hKey_pre a0 a1 a2 a3, hKey_post a0 a1 a2 a3) }
def hKey_VC : Prop := ∀ m : Mem, ∀ x0 : Int, IntKind.u64.min ≤ x0 → x0 ≤ IntKind.u64.max → ∀ s0 : List UInt8, ∀ x1 : Int, mi ≤ x1 → x1 ≤ ma → ∀ x2 : Int, mi ≤ x2 → x2 ≤ ma → hKey_pre x0 s0 x1 x2 m →
 (((s0.length : Nat) : Int) ≤ 9223372036854775807 ∧ ∀ (p0 : Addr) (n0 c0 : Nat) (r0 : List Value), n0 = s0.length → n0 ≤ c0 → c0 ≤ 9223372036854775807 → r0 = (s0).map (fun b => Value.int IntKind.u8 (b.toNat : Int)) → (∃ F1 : Int → Int → Prop × Nat, ((K.i64 0) ∧ (K.u64 14695981039346656037) ∧ (F1 0 14695981039346656037).1) ∧
 ∀ x5 : Int, mi ≤ x5 → x5 ≤ ma → ∀ x6 : Int, IntKind.u64.min ≤ x6 → x6 ≤ IntKind.u64.max → (F1 x5 x6).1 →
 ((x5 < (n0 : Int) →
 (0 ≤ x5 ∧ ((some p0) ≠ none ∧ ((0 ≤ (0 + x5) ∧ (0 + x5) + 1 ≤ (r0.length : Int)) ∧ (∃ x7 : Int, rowI r0 (0 + x5) = some (Value.int IntKind.u8 x7) ∧ (K.u8 x7) ∧ (arithP BinOp.xor x7 ∧ ∀ x8 : Int, x8 = arithV BinOp.xor IntKind.u64 x6 x7 → (K.u64 x8) ∧ (arithP BinOp.mul 1099511628211 ∧ ∀ x9 : Int, x9 = arithV BinOp.mul IntKind.u64 x8 1099511628211 → (K.u64 x9) ∧ ((x5 + 1) ≤ 9223372036854775807 ∧ ((mi ≤ (x5 + 1) ∧ (x5 + 1) ≤ ma) ∧ (K.u64 x9) ∧ ((F1 (x5 + 1) x9).1 ∧ (F1 (x5 + 1) x9).2 < (F1 x5 x6).2)))))))))) ∧
 ((n0 : Int) ≤ x5 →
 (∀ x7 : Int, x7 = IntKind.i64.wrap x0 → mi ≤ x7 → x7 ≤ ma → (∀ x8 : Int, x8 = IntKind.u64.wrap x7 → IntKind.u64.min ≤ x8 → x8 ≤ IntKind.u64.max → (arithP BinOp.shr 0 ∧ ∀ x9 : Int, x9 = arithV BinOp.shr IntKind.u64 x8 0 → (K.u64 x9) ∧ (∀ x10 : Int, x10 = IntKind.u8.wrap x9 → IntKind.u8.min ≤ x10 → x10 ≤ IntKind.u8.max → (∀ x11 : Int, x11 = IntKind.u64.wrap x7 → IntKind.u64.min ≤ x11 → x11 ≤ IntKind.u64.max → (arithP BinOp.shr 8 ∧ ∀ x12 : Int, x12 = arithV BinOp.shr IntKind.u64 x11 8 → (K.u64 x12) ∧ (∀ x13 : Int, x13 = IntKind.u8.wrap x12 → IntKind.u8.min ≤ x13 → x13 ≤ IntKind.u8.max → (∀ x14 : Int, x14 = IntKind.u64.wrap x7 → IntKind.u64.min ≤ x14 → x14 ≤ IntKind.u64.max → (arithP BinOp.shr 16 ∧ ∀ x15 : Int, x15 = arithV BinOp.shr IntKind.u64 x14 16 → (K.u64 x15) ∧ (∀ x16 : Int, x16 = IntKind.u8.wrap x15 → IntKind.u8.min ≤ x16 → x16 ≤ IntKind.u8.max → (∀ x17 : Int, x17 = IntKind.u64.wrap x7 → IntKind.u64.min ≤ x17 → x17 ≤ IntKind.u64.max → (arithP BinOp.shr 24 ∧ ∀ x18 : Int, x18 = arithV BinOp.shr IntKind.u64 x17 24 → (K.u64 x18) ∧ (∀ x19 : Int, x19 = IntKind.u8.wrap x18 → IntKind.u8.min ≤ x19 → x19 ≤ IntKind.u8.max → (∀ x20 : Int, x20 = IntKind.u64.wrap x7 → IntKind.u64.min ≤ x20 → x20 ≤ IntKind.u64.max → (arithP BinOp.shr 32 ∧ ∀ x21 : Int, x21 = arithV BinOp.shr IntKind.u64 x20 32 → (K.u64 x21) ∧ (∀ x22 : Int, x22 = IntKind.u8.wrap x21 → IntKind.u8.min ≤ x22 → x22 ≤ IntKind.u8.max → (∀ x23 : Int, x23 = IntKind.u64.wrap x7 → IntKind.u64.min ≤ x23 → x23 ≤ IntKind.u64.max → (arithP BinOp.shr 40 ∧ ∀ x24 : Int, x24 = arithV BinOp.shr IntKind.u64 x23 40 → (K.u64 x24) ∧ (∀ x25 : Int, x25 = IntKind.u8.wrap x24 → IntKind.u8.min ≤ x25 → x25 ≤ IntKind.u8.max → (∀ x26 : Int, x26 = IntKind.u64.wrap x7 → IntKind.u64.min ≤ x26 → x26 ≤ IntKind.u64.max → (arithP BinOp.shr 48 ∧ ∀ x27 : Int, x27 = arithV BinOp.shr IntKind.u64 x26 48 → (K.u64 x27) ∧ (∀ x28 : Int, x28 = IntKind.u8.wrap x27 → IntKind.u8.min ≤ x28 → x28 ≤ IntKind.u8.max → (∀ x29 : Int, x29 = IntKind.u64.wrap x7 → IntKind.u64.min ≤ x29 → x29 ≤ IntKind.u64.max → (arithP BinOp.shr 56 ∧ ∀ x30 : Int, x30 = arithV BinOp.shr IntKind.u64 x29 56 → (K.u64 x30) ∧ (∀ x31 : Int, x31 = IntKind.u8.wrap x30 → IntKind.u8.min ≤ x31 → x31 ≤ IntKind.u8.max → (∃ ns : List Int, [(Value.int IntKind.u8 x10), (Value.int IntKind.u8 x13), (Value.int IntKind.u8 x16), (Value.int IntKind.u8 x19), (Value.int IntKind.u8 x22), (Value.int IntKind.u8 x25), (Value.int IntKind.u8 x28), (Value.int IntKind.u8 x31)] = ns.map (Value.int IntKind.u8) ∧ ∀ s1 : List UInt8, s1 = ns.map (fun n => UInt8.ofNat n.toNat) → (((s1.length : Nat) : Int) ≤ 9223372036854775807 ∧ ∀ (p1 : Addr) (n1 c1 : Nat) (r1 : List Value), n1 = s1.length → n1 ≤ c1 → c1 ≤ 9223372036854775807 → r1 = (s1).map (fun b => Value.int IntKind.u8 (b.toNat : Int)) → (∃ F2 : Int → Int → Prop × Nat, ((K.i64 0) ∧ (K.u64 x6) ∧ (F2 0 x6).1) ∧
 ∀ x34 : Int, mi ≤ x34 → x34 ≤ ma → ∀ x35 : Int, IntKind.u64.min ≤ x35 → x35 ≤ IntKind.u64.max → (F2 x34 x35).1 →
 ((x34 < (n1 : Int) →
 (0 ≤ x34 ∧ ((some p1) ≠ none ∧ ((0 ≤ (0 + x34) ∧ (0 + x34) + 1 ≤ (r1.length : Int)) ∧ (∃ x36 : Int, rowI r1 (0 + x34) = some (Value.int IntKind.u8 x36) ∧ (K.u8 x36) ∧ (arithP BinOp.xor x36 ∧ ∀ x37 : Int, x37 = arithV BinOp.xor IntKind.u64 x35 x36 → (K.u64 x37) ∧ (arithP BinOp.mul 1099511628211 ∧ ∀ x38 : Int, x38 = arithV BinOp.mul IntKind.u64 x37 1099511628211 → (K.u64 x38) ∧ ((x34 + 1) ≤ 9223372036854775807 ∧ ((mi ≤ (x34 + 1) ∧ (x34 + 1) ≤ ma) ∧ (K.u64 x38) ∧ ((F2 (x34 + 1) x38).1 ∧ (F2 (x34 + 1) x38).2 < (F2 x34 x35).2)))))))))) ∧
 ((n1 : Int) ≤ x34 →
 (∀ x36 : Int, x36 = IntKind.u64.wrap x1 → IntKind.u64.min ≤ x36 → x36 ≤ IntKind.u64.max → (arithP BinOp.shr 0 ∧ ∀ x37 : Int, x37 = arithV BinOp.shr IntKind.u64 x36 0 → (K.u64 x37) ∧ (∀ x38 : Int, x38 = IntKind.u8.wrap x37 → IntKind.u8.min ≤ x38 → x38 ≤ IntKind.u8.max → (∀ x39 : Int, x39 = IntKind.u64.wrap x1 → IntKind.u64.min ≤ x39 → x39 ≤ IntKind.u64.max → (arithP BinOp.shr 8 ∧ ∀ x40 : Int, x40 = arithV BinOp.shr IntKind.u64 x39 8 → (K.u64 x40) ∧ (∀ x41 : Int, x41 = IntKind.u8.wrap x40 → IntKind.u8.min ≤ x41 → x41 ≤ IntKind.u8.max → (∀ x42 : Int, x42 = IntKind.u64.wrap x1 → IntKind.u64.min ≤ x42 → x42 ≤ IntKind.u64.max → (arithP BinOp.shr 16 ∧ ∀ x43 : Int, x43 = arithV BinOp.shr IntKind.u64 x42 16 → (K.u64 x43) ∧ (∀ x44 : Int, x44 = IntKind.u8.wrap x43 → IntKind.u8.min ≤ x44 → x44 ≤ IntKind.u8.max → (∀ x45 : Int, x45 = IntKind.u64.wrap x1 → IntKind.u64.min ≤ x45 → x45 ≤ IntKind.u64.max → (arithP BinOp.shr 24 ∧ ∀ x46 : Int, x46 = arithV BinOp.shr IntKind.u64 x45 24 → (K.u64 x46) ∧ (∀ x47 : Int, x47 = IntKind.u8.wrap x46 → IntKind.u8.min ≤ x47 → x47 ≤ IntKind.u8.max → (∀ x48 : Int, x48 = IntKind.u64.wrap x1 → IntKind.u64.min ≤ x48 → x48 ≤ IntKind.u64.max → (arithP BinOp.shr 32 ∧ ∀ x49 : Int, x49 = arithV BinOp.shr IntKind.u64 x48 32 → (K.u64 x49) ∧ (∀ x50 : Int, x50 = IntKind.u8.wrap x49 → IntKind.u8.min ≤ x50 → x50 ≤ IntKind.u8.max → (∀ x51 : Int, x51 = IntKind.u64.wrap x1 → IntKind.u64.min ≤ x51 → x51 ≤ IntKind.u64.max → (arithP BinOp.shr 40 ∧ ∀ x52 : Int, x52 = arithV BinOp.shr IntKind.u64 x51 40 → (K.u64 x52) ∧ (∀ x53 : Int, x53 = IntKind.u8.wrap x52 → IntKind.u8.min ≤ x53 → x53 ≤ IntKind.u8.max → (∀ x54 : Int, x54 = IntKind.u64.wrap x1 → IntKind.u64.min ≤ x54 → x54 ≤ IntKind.u64.max → (arithP BinOp.shr 48 ∧ ∀ x55 : Int, x55 = arithV BinOp.shr IntKind.u64 x54 48 → (K.u64 x55) ∧ (∀ x56 : Int, x56 = IntKind.u8.wrap x55 → IntKind.u8.min ≤ x56 → x56 ≤ IntKind.u8.max → (∀ x57 : Int, x57 = IntKind.u64.wrap x1 → IntKind.u64.min ≤ x57 → x57 ≤ IntKind.u64.max → (arithP BinOp.shr 56 ∧ ∀ x58 : Int, x58 = arithV BinOp.shr IntKind.u64 x57 56 → (K.u64 x58) ∧ (∀ x59 : Int, x59 = IntKind.u8.wrap x58 → IntKind.u8.min ≤ x59 → x59 ≤ IntKind.u8.max → (∃ ns : List Int, [(Value.int IntKind.u8 x38), (Value.int IntKind.u8 x41), (Value.int IntKind.u8 x44), (Value.int IntKind.u8 x47), (Value.int IntKind.u8 x50), (Value.int IntKind.u8 x53), (Value.int IntKind.u8 x56), (Value.int IntKind.u8 x59)] = ns.map (Value.int IntKind.u8) ∧ ∀ s2 : List UInt8, s2 = ns.map (fun n => UInt8.ofNat n.toNat) → (((s2.length : Nat) : Int) ≤ 9223372036854775807 ∧ ∀ (p2 : Addr) (n2 c2 : Nat) (r2 : List Value), n2 = s2.length → n2 ≤ c2 → c2 ≤ 9223372036854775807 → r2 = (s2).map (fun b => Value.int IntKind.u8 (b.toNat : Int)) → (∃ F3 : Int → Int → Prop × Nat, ((K.i64 0) ∧ (K.u64 x35) ∧ (F3 0 x35).1) ∧
 ∀ x62 : Int, mi ≤ x62 → x62 ≤ ma → ∀ x63 : Int, IntKind.u64.min ≤ x63 → x63 ≤ IntKind.u64.max → (F3 x62 x63).1 →
 ((x62 < (n2 : Int) →
 (0 ≤ x62 ∧ ((some p2) ≠ none ∧ ((0 ≤ (0 + x62) ∧ (0 + x62) + 1 ≤ (r2.length : Int)) ∧ (∃ x64 : Int, rowI r2 (0 + x62) = some (Value.int IntKind.u8 x64) ∧ (K.u8 x64) ∧ (arithP BinOp.xor x64 ∧ ∀ x65 : Int, x65 = arithV BinOp.xor IntKind.u64 x63 x64 → (K.u64 x65) ∧ (arithP BinOp.mul 1099511628211 ∧ ∀ x66 : Int, x66 = arithV BinOp.mul IntKind.u64 x65 1099511628211 → (K.u64 x66) ∧ ((x62 + 1) ≤ 9223372036854775807 ∧ ((mi ≤ (x62 + 1) ∧ (x62 + 1) ≤ ma) ∧ (K.u64 x66) ∧ ((F3 (x62 + 1) x66).1 ∧ (F3 (x62 + 1) x66).2 < (F3 x62 x63).2)))))))))) ∧
 ((n2 : Int) ≤ x62 →
 (∀ x64 : Int, x64 = IntKind.u64.wrap x2 → IntKind.u64.min ≤ x64 → x64 ≤ IntKind.u64.max → (arithP BinOp.shr 0 ∧ ∀ x65 : Int, x65 = arithV BinOp.shr IntKind.u64 x64 0 → (K.u64 x65) ∧ (∀ x66 : Int, x66 = IntKind.u8.wrap x65 → IntKind.u8.min ≤ x66 → x66 ≤ IntKind.u8.max → (∀ x67 : Int, x67 = IntKind.u64.wrap x2 → IntKind.u64.min ≤ x67 → x67 ≤ IntKind.u64.max → (arithP BinOp.shr 8 ∧ ∀ x68 : Int, x68 = arithV BinOp.shr IntKind.u64 x67 8 → (K.u64 x68) ∧ (∀ x69 : Int, x69 = IntKind.u8.wrap x68 → IntKind.u8.min ≤ x69 → x69 ≤ IntKind.u8.max → (∀ x70 : Int, x70 = IntKind.u64.wrap x2 → IntKind.u64.min ≤ x70 → x70 ≤ IntKind.u64.max → (arithP BinOp.shr 16 ∧ ∀ x71 : Int, x71 = arithV BinOp.shr IntKind.u64 x70 16 → (K.u64 x71) ∧ (∀ x72 : Int, x72 = IntKind.u8.wrap x71 → IntKind.u8.min ≤ x72 → x72 ≤ IntKind.u8.max → (∀ x73 : Int, x73 = IntKind.u64.wrap x2 → IntKind.u64.min ≤ x73 → x73 ≤ IntKind.u64.max → (arithP BinOp.shr 24 ∧ ∀ x74 : Int, x74 = arithV BinOp.shr IntKind.u64 x73 24 → (K.u64 x74) ∧ (∀ x75 : Int, x75 = IntKind.u8.wrap x74 → IntKind.u8.min ≤ x75 → x75 ≤ IntKind.u8.max → (∀ x76 : Int, x76 = IntKind.u64.wrap x2 → IntKind.u64.min ≤ x76 → x76 ≤ IntKind.u64.max → (arithP BinOp.shr 32 ∧ ∀ x77 : Int, x77 = arithV BinOp.shr IntKind.u64 x76 32 → (K.u64 x77) ∧ (∀ x78 : Int, x78 = IntKind.u8.wrap x77 → IntKind.u8.min ≤ x78 → x78 ≤ IntKind.u8.max → (∀ x79 : Int, x79 = IntKind.u64.wrap x2 → IntKind.u64.min ≤ x79 → x79 ≤ IntKind.u64.max → (arithP BinOp.shr 40 ∧ ∀ x80 : Int, x80 = arithV BinOp.shr IntKind.u64 x79 40 → (K.u64 x80) ∧ (∀ x81 : Int, x81 = IntKind.u8.wrap x80 → IntKind.u8.min ≤ x81 → x81 ≤ IntKind.u8.max → (∀ x82 : Int, x82 = IntKind.u64.wrap x2 → IntKind.u64.min ≤ x82 → x82 ≤ IntKind.u64.max → (arithP BinOp.shr 48 ∧ ∀ x83 : Int, x83 = arithV BinOp.shr IntKind.u64 x82 48 → (K.u64 x83) ∧ (∀ x84 : Int, x84 = IntKind.u8.wrap x83 → IntKind.u8.min ≤ x84 → x84 ≤ IntKind.u8.max → (∀ x85 : Int, x85 = IntKind.u64.wrap x2 → IntKind.u64.min ≤ x85 → x85 ≤ IntKind.u64.max → (arithP BinOp.shr 56 ∧ ∀ x86 : Int, x86 = arithV BinOp.shr IntKind.u64 x85 56 → (K.u64 x86) ∧ (∀ x87 : Int, x87 = IntKind.u8.wrap x86 → IntKind.u8.min ≤ x87 → x87 ≤ IntKind.u8.max → (∃ ns : List Int, [(Value.int IntKind.u8 x66), (Value.int IntKind.u8 x69), (Value.int IntKind.u8 x72), (Value.int IntKind.u8 x75), (Value.int IntKind.u8 x78), (Value.int IntKind.u8 x81), (Value.int IntKind.u8 x84), (Value.int IntKind.u8 x87)] = ns.map (Value.int IntKind.u8) ∧ ∀ s3 : List UInt8, s3 = ns.map (fun n => UInt8.ofNat n.toNat) → (((s3.length : Nat) : Int) ≤ 9223372036854775807 ∧ ∀ (p3 : Addr) (n3 c3 : Nat) (r3 : List Value), n3 = s3.length → n3 ≤ c3 → c3 ≤ 9223372036854775807 → r3 = (s3).map (fun b => Value.int IntKind.u8 (b.toNat : Int)) → (∃ F4 : Int → Int → Prop × Nat, ((K.i64 0) ∧ (K.u64 x63) ∧ (F4 0 x63).1) ∧
 ∀ x90 : Int, mi ≤ x90 → x90 ≤ ma → ∀ x91 : Int, IntKind.u64.min ≤ x91 → x91 ≤ IntKind.u64.max → (F4 x90 x91).1 →
 ((x90 < (n3 : Int) →
 (0 ≤ x90 ∧ ((some p3) ≠ none ∧ ((0 ≤ (0 + x90) ∧ (0 + x90) + 1 ≤ (r3.length : Int)) ∧ (∃ x92 : Int, rowI r3 (0 + x90) = some (Value.int IntKind.u8 x92) ∧ (K.u8 x92) ∧ (arithP BinOp.xor x92 ∧ ∀ x93 : Int, x93 = arithV BinOp.xor IntKind.u64 x91 x92 → (K.u64 x93) ∧ (arithP BinOp.mul 1099511628211 ∧ ∀ x94 : Int, x94 = arithV BinOp.mul IntKind.u64 x93 1099511628211 → (K.u64 x94) ∧ ((x90 + 1) ≤ 9223372036854775807 ∧ ((mi ≤ (x90 + 1) ∧ (x90 + 1) ≤ ma) ∧ (K.u64 x94) ∧ ((F4 (x90 + 1) x94).1 ∧ (F4 (x90 + 1) x94).2 < (F4 x90 x91).2)))))))))) ∧
 ((n3 : Int) ≤ x90 →
 ((K.u64 x91) ∧ hKey_post x0 s0 x1 x2 m x91)))))))))))))))))))))))))))))))))))))))))))))))))))))))))))))))))))))))))))))))))))))))))))))
theorem hKey_vc : hKey_VC := by
 intro m seed _ _ s due _ _ k _ _ hs
 have hs : s.length ≤ 9223372036854775807 := hs
 have hhA : u64I (14695981039346656037 : Int) := by constructor <;> decide
 have hhB : u64I (hTxt 14695981039346656037 s) := hFold_rng hhA _
 have hhC : u64I (hNumV (hTxt 14695981039346656037 s) (IntKind.i64.wrap seed)) := hFold_rng hhB _
 have hhD : u64I (hNumV (hNumV (hTxt 14695981039346656037 s) (IntKind.i64.wrap seed)) due) := hFold_rng hhC _
 refine ⟨by omega, fun p0 n0 c0 r0 e1 _ _ e2 => txt_loop (by omega) e1 e2 hhA ?_⟩
 intro sd esd _ _
 subst esd
 intro aB0 eB0 _ _
 refine ⟨(by show (0 : Int) ≤ 0; decide), ?_⟩; intro bB0 fB0; refine ⟨by rw [fB0, eB0]; exact shr64_rng (wrapU_rng _) 0 (by decide), ?_⟩; intro dB0 gB0 _ _ aB1 eB1 _ _
 refine ⟨(by show (0 : Int) ≤ 8; decide), ?_⟩; intro bB1 fB1; refine ⟨by rw [fB1, eB1]; exact shr64_rng (wrapU_rng _) 8 (by decide), ?_⟩; intro dB1 gB1 _ _ aB2 eB2 _ _
 refine ⟨(by show (0 : Int) ≤ 16; decide), ?_⟩; intro bB2 fB2; refine ⟨by rw [fB2, eB2]; exact shr64_rng (wrapU_rng _) 16 (by decide), ?_⟩; intro dB2 gB2 _ _ aB3 eB3 _ _
 refine ⟨(by show (0 : Int) ≤ 24; decide), ?_⟩; intro bB3 fB3; refine ⟨by rw [fB3, eB3]; exact shr64_rng (wrapU_rng _) 24 (by decide), ?_⟩; intro dB3 gB3 _ _ aB4 eB4 _ _
 refine ⟨(by show (0 : Int) ≤ 32; decide), ?_⟩; intro bB4 fB4; refine ⟨by rw [fB4, eB4]; exact shr64_rng (wrapU_rng _) 32 (by decide), ?_⟩; intro dB4 gB4 _ _ aB5 eB5 _ _
 refine ⟨(by show (0 : Int) ≤ 40; decide), ?_⟩; intro bB5 fB5; refine ⟨by rw [fB5, eB5]; exact shr64_rng (wrapU_rng _) 40 (by decide), ?_⟩; intro dB5 gB5 _ _ aB6 eB6 _ _
 refine ⟨(by show (0 : Int) ≤ 48; decide), ?_⟩; intro bB6 fB6; refine ⟨by rw [fB6, eB6]; exact shr64_rng (wrapU_rng _) 48 (by decide), ?_⟩; intro dB6 gB6 _ _ aB7 eB7 _ _
 refine ⟨(by show (0 : Int) ≤ 56; decide), ?_⟩; intro bB7 fB7; refine ⟨by rw [fB7, eB7]; exact shr64_rng (wrapU_rng _) 56 (by decide), ?_⟩; intro dB7 gB7 _ _
 refine ⟨nBytes (IntKind.i64.wrap seed), by rw [gB0, gB1, gB2, gB3, gB4, gB5, gB6, gB7, fB0, fB1, fB2, fB3, fB4, fB5, fB6, fB7, eB0, eB1, eB2, eB3, eB4, eB5, eB6, eB7]; rfl, ?_⟩
 intro sB esB
 have hlB : sB.length = 8 := by rw [esB, List.length_map]; rfl
 have htB : hTxt (hTxt 14695981039346656037 s) sB = hNumV (hTxt 14695981039346656037 s) (IntKind.i64.wrap seed) := by
  unfold hTxt hNumV
  rw [esB, byI_ofNat (nBytes_rng (IntKind.i64.wrap seed))]
 refine ⟨by omega, fun pB nB cB rB qB1 _ _ qB2 => txt_loop (by omega) qB1 qB2 hhB ?_⟩
 rw [htB]
 intro aC0 eC0 _ _
 refine ⟨(by show (0 : Int) ≤ 0; decide), ?_⟩; intro bC0 fC0; refine ⟨by rw [fC0, eC0]; exact shr64_rng (wrapU_rng _) 0 (by decide), ?_⟩; intro dC0 gC0 _ _ aC1 eC1 _ _
 refine ⟨(by show (0 : Int) ≤ 8; decide), ?_⟩; intro bC1 fC1; refine ⟨by rw [fC1, eC1]; exact shr64_rng (wrapU_rng _) 8 (by decide), ?_⟩; intro dC1 gC1 _ _ aC2 eC2 _ _
 refine ⟨(by show (0 : Int) ≤ 16; decide), ?_⟩; intro bC2 fC2; refine ⟨by rw [fC2, eC2]; exact shr64_rng (wrapU_rng _) 16 (by decide), ?_⟩; intro dC2 gC2 _ _ aC3 eC3 _ _
 refine ⟨(by show (0 : Int) ≤ 24; decide), ?_⟩; intro bC3 fC3; refine ⟨by rw [fC3, eC3]; exact shr64_rng (wrapU_rng _) 24 (by decide), ?_⟩; intro dC3 gC3 _ _ aC4 eC4 _ _
 refine ⟨(by show (0 : Int) ≤ 32; decide), ?_⟩; intro bC4 fC4; refine ⟨by rw [fC4, eC4]; exact shr64_rng (wrapU_rng _) 32 (by decide), ?_⟩; intro dC4 gC4 _ _ aC5 eC5 _ _
 refine ⟨(by show (0 : Int) ≤ 40; decide), ?_⟩; intro bC5 fC5; refine ⟨by rw [fC5, eC5]; exact shr64_rng (wrapU_rng _) 40 (by decide), ?_⟩; intro dC5 gC5 _ _ aC6 eC6 _ _
 refine ⟨(by show (0 : Int) ≤ 48; decide), ?_⟩; intro bC6 fC6; refine ⟨by rw [fC6, eC6]; exact shr64_rng (wrapU_rng _) 48 (by decide), ?_⟩; intro dC6 gC6 _ _ aC7 eC7 _ _
 refine ⟨(by show (0 : Int) ≤ 56; decide), ?_⟩; intro bC7 fC7; refine ⟨by rw [fC7, eC7]; exact shr64_rng (wrapU_rng _) 56 (by decide), ?_⟩; intro dC7 gC7 _ _
 refine ⟨nBytes due, by rw [gC0, gC1, gC2, gC3, gC4, gC5, gC6, gC7, fC0, fC1, fC2, fC3, fC4, fC5, fC6, fC7, eC0, eC1, eC2, eC3, eC4, eC5, eC6, eC7]; rfl, ?_⟩
 intro sC esC
 have hlC : sC.length = 8 := by rw [esC, List.length_map]; rfl
 have htC : hTxt (hNumV (hTxt 14695981039346656037 s) (IntKind.i64.wrap seed)) sC = hNumV (hNumV (hTxt 14695981039346656037 s) (IntKind.i64.wrap seed)) due := by
  unfold hTxt hNumV
  rw [esC, byI_ofNat (nBytes_rng due)]
 refine ⟨by omega, fun pC nC cC rC qC1 _ _ qC2 => txt_loop (by omega) qC1 qC2 hhC ?_⟩
 rw [htC]
 intro aD0 eD0 _ _
 refine ⟨(by show (0 : Int) ≤ 0; decide), ?_⟩; intro bD0 fD0; refine ⟨by rw [fD0, eD0]; exact shr64_rng (wrapU_rng _) 0 (by decide), ?_⟩; intro dD0 gD0 _ _ aD1 eD1 _ _
 refine ⟨(by show (0 : Int) ≤ 8; decide), ?_⟩; intro bD1 fD1; refine ⟨by rw [fD1, eD1]; exact shr64_rng (wrapU_rng _) 8 (by decide), ?_⟩; intro dD1 gD1 _ _ aD2 eD2 _ _
 refine ⟨(by show (0 : Int) ≤ 16; decide), ?_⟩; intro bD2 fD2; refine ⟨by rw [fD2, eD2]; exact shr64_rng (wrapU_rng _) 16 (by decide), ?_⟩; intro dD2 gD2 _ _ aD3 eD3 _ _
 refine ⟨(by show (0 : Int) ≤ 24; decide), ?_⟩; intro bD3 fD3; refine ⟨by rw [fD3, eD3]; exact shr64_rng (wrapU_rng _) 24 (by decide), ?_⟩; intro dD3 gD3 _ _ aD4 eD4 _ _
 refine ⟨(by show (0 : Int) ≤ 32; decide), ?_⟩; intro bD4 fD4; refine ⟨by rw [fD4, eD4]; exact shr64_rng (wrapU_rng _) 32 (by decide), ?_⟩; intro dD4 gD4 _ _ aD5 eD5 _ _
 refine ⟨(by show (0 : Int) ≤ 40; decide), ?_⟩; intro bD5 fD5; refine ⟨by rw [fD5, eD5]; exact shr64_rng (wrapU_rng _) 40 (by decide), ?_⟩; intro dD5 gD5 _ _ aD6 eD6 _ _
 refine ⟨(by show (0 : Int) ≤ 48; decide), ?_⟩; intro bD6 fD6; refine ⟨by rw [fD6, eD6]; exact shr64_rng (wrapU_rng _) 48 (by decide), ?_⟩; intro dD6 gD6 _ _ aD7 eD7 _ _
 refine ⟨(by show (0 : Int) ≤ 56; decide), ?_⟩; intro bD7 fD7; refine ⟨by rw [fD7, eD7]; exact shr64_rng (wrapU_rng _) 56 (by decide), ?_⟩; intro dD7 gD7 _ _
 refine ⟨nBytes k, by rw [gD0, gD1, gD2, gD3, gD4, gD5, gD6, gD7, fD0, fD1, fD2, fD3, fD4, fD5, fD6, fD7, eD0, eD1, eD2, eD3, eD4, eD5, eD6, eD7]; rfl, ?_⟩
 intro sD esD
 have hlD : sD.length = 8 := by rw [esD, List.length_map]; rfl
 have htD : hTxt (hNumV (hNumV (hTxt 14695981039346656037 s) (IntKind.i64.wrap seed)) due) sD = hNumV (hNumV (hNumV (hTxt 14695981039346656037 s) (IntKind.i64.wrap seed)) due) k := by
  unfold hTxt hNumV
  rw [esD, byI_ofNat (nBytes_rng k)]
 refine ⟨by omega, fun pD nD cD rD qD1 _ _ qD2 => txt_loop (by omega) qD1 qD2 hhD ?_⟩
 rw [htD]
 exact ⟨hFold_rng hhD _, rfl⟩
theorem hKey_ok : SpOk Tryz.prog hKey :=
 con_ok (sps_of [] trivial rfl) (tab_ok _ [⟨(20, 2), [(0, 0, .i .u64)], [], [], []⟩]) 1000 hKey _ rfl rfl (Eq.mp (show hKey_VC = _ by kernel_rfl) hKey_vc)
def jWt_pre (seed : Int) (s : List UInt8) (due k len : Int) (m : Mem) : Prop := Globs m glMx ∧ s.length ≤ 9223372036854775807
def jWt_post (seed : Int) (s : List UInt8) (due k len : Int) (m : Mem) (z e : Int) : Prop := e = jitE s due k len ∧ z = if jitE s due k len = 0 then jitV seed s due k len else 0
def jWt : Sp := { args := [.i .u64, .s, .i .i64, .i .i64, .i .i64], grp := [none, none, none, none, none], res := [.i .i64, .i .i64], rgrp := [none, none], fn := 80, spec := fun a0 a1 a2 a3 a4 => (jWt_pre a0 a1 a2 a3 a4, jWt_post a0 a1 a2 a3 a4) }
def jWt_VC : Prop := ∀ m : Mem, ∀ x0 : Int, IntKind.u64.min ≤ x0 → x0 ≤ IntKind.u64.max → ∀ s0 : List UInt8, ∀ x1 : Int, mi ≤ x1 → x1 ≤ ma → ∀ x2 : Int, mi ≤ x2 → x2 ≤ ma → ∀ x3 : Int, mi ≤ x3 → x3 ≤ ma → jWt_pre x0 s0 x1 x2 x3 m →
 ((x2 < 1 →
 (lNam_pre s0 m ∧ ∀ m1 : Mem, MemSub m m1 → ∀ b0 : Bool, lNam_post s0 m1 b0 →
 ((b0 = false →
 ((K.i64 0) ∧ (K.i64 15) ∧ jWt_post x0 s0 x1 x2 x3 m1 0 15)) ∧
 (b0 = true →
 ((x1 < 0 →
 ((K.i64 0) ∧ (K.i64 14) ∧ jWt_post x0 s0 x1 x2 x3 m1 0 14)) ∧
 (0 ≤ x1 →
 ((253402300799 < x1 →
 ((K.i64 0) ∧ (K.i64 14) ∧ jWt_post x0 s0 x1 x2 x3 m1 0 14)) ∧
 (x1 ≤ 253402300799 →
 ((K.i64 0) ∧ (K.i64 2) ∧ jWt_post x0 s0 x1 x2 x3 m1 0 2))))))))) ∧
 (1 ≤ x2 →
 (lNam_pre s0 m ∧ ∀ m1 : Mem, MemSub m m1 → ∀ b0 : Bool, lNam_post s0 m1 b0 →
 ((b0 = false →
 ((K.i64 0) ∧ (K.i64 15) ∧ jWt_post x0 s0 x1 x2 x3 m1 0 15)) ∧
 (b0 = true →
 ((x1 < 0 →
 ((K.i64 0) ∧ (K.i64 14) ∧ jWt_post x0 s0 x1 x2 x3 m1 0 14)) ∧
 (0 ≤ x1 →
 ((253402300799 < x1 →
 ((K.i64 0) ∧ (K.i64 14) ∧ jWt_post x0 s0 x1 x2 x3 m1 0 14)) ∧
 (x1 ≤ 253402300799 →
 ((21 < x2 →
 ((K.i64 0) ∧ (K.i64 2) ∧ jWt_post x0 s0 x1 x2 x3 m1 0 2)) ∧
 (x2 ≤ 21 →
 ((x3 < 0 →
 ((K.i64 0) ∧ (K.i64 2) ∧ jWt_post x0 s0 x1 x2 x3 m1 0 2)) ∧
 (0 ≤ x3 →
 ((68719476736 < x3 →
 ((K.i64 0) ∧ (K.i64 2) ∧ jWt_post x0 s0 x1 x2 x3 m1 0 2)) ∧
 (x3 ≤ 68719476736 →
 (hKey_pre x0 s0 x1 x2 m1 ∧ ∀ m2 : Mem, MemSub m1 m2 → ∀ x4 : Int, IntKind.u64.min ≤ x4 → x4 ≤ IntKind.u64.max → hKey_post x0 s0 x1 x2 m2 x4 →
 (mMix_pre x4 m2 ∧ ∀ m3 : Mem, MemSub m2 m3 → ∀ x5 : Int, IntKind.u64.min ≤ x5 → x5 ≤ IntKind.u64.max → mMix_post x4 m3 x5 →
 (mBel_pre x5 x3 m3 ∧ ∀ m4 : Mem, MemSub m3 m4 → ∀ x6 : Int, IntKind.u64.min ≤ x6 → x6 ≤ IntKind.u64.max → ∀ x7 : Int, mi ≤ x7 → x7 ≤ ma → mBel_post x5 x3 m4 x6 x7 →
 ((x7 ≠ 0 →
 ((K.i64 0) ∧ (K.i64 0) ∧ jWt_post x0 s0 x1 x2 x3 m4 0 0)) ∧
 (x7 = 0 →
 (∀ x8 : Int, x8 = IntKind.i64.wrap x6 → mi ≤ x8 → x8 ≤ ma → ((K.i64 x8) ∧ (K.i64 0) ∧ jWt_post x0 s0 x1 x2 x3 m4 x8 0))))))))))))))))))))))
theorem jWt_vc : jWt_VC := by
 intro m seed _ _ s due d1 d2 k k1 k2 len l1 l2 ⟨hg, hs⟩
 have kz : K.i64 0 := by constructor <;> decide
 have ke : K.i64 15 ∧ K.i64 14 ∧ K.i64 2 := by refine ⟨?_, ?_, ?_⟩ <;> (constructor <;> decide)
 have bad : ∀ (m' : Mem) (e : Int), e ≠ 0 → K.i64 e → jitE s due k len = e → (K.i64 0) ∧ (K.i64 e) ∧ jWt_post seed s due k len m' 0 e := fun m' e h0 hk h => ⟨kz, hk, h.symm, by rw [h, if_neg h0]⟩
 refine ⟨fun hk => ⟨hs, fun m1 hm1 b hb => ?_⟩, fun hk => ⟨hs, fun m1 hm1 b hb => ?_⟩⟩
 ·have hb : b = nameB s := hb
  refine ⟨fun h => bad m1 15 (by decide) ke.1 (by unfold jitE; rw [if_pos (by rw [← hb]; exact h)]), fun h => ?_⟩
  have hn : ¬ nameB s = false := by rw [← hb, h]; simp
  refine ⟨fun h => bad m1 14 (by decide) ke.2.1 (by unfold jitE; rw [if_neg hn, if_pos (by omega)]), fun h => ⟨fun h => bad m1 14 (by decide) ke.2.1 (by unfold jitE; rw [if_neg hn, if_pos (by omega)]), fun h => bad m1 2 (by decide) ke.2.2 (by unfold jitE; rw [if_neg hn, if_neg (by omega), if_pos (by omega)])⟩⟩
 ·have hb : b = nameB s := hb
  refine ⟨fun h => bad m1 15 (by decide) ke.1 (by unfold jitE; rw [if_pos (by rw [← hb]; exact h)]), fun h => ?_⟩
  have hn : ¬ nameB s = false := by rw [← hb, h]; simp
  refine ⟨fun h => bad m1 14 (by decide) ke.2.1 (by unfold jitE; rw [if_neg hn, if_pos (by omega)]), fun h => ⟨fun h => bad m1 14 (by decide) ke.2.1 (by unfold jitE; rw [if_neg hn, if_pos (by omega)]), fun h => ⟨fun h => bad m1 2 (by decide) ke.2.2 (by unfold jitE; rw [if_neg hn, if_neg (by omega), if_pos (by omega)]), fun h => ⟨fun h => bad m1 2 (by decide) ke.2.2 (by unfold jitE; rw [if_neg hn, if_neg (by omega), if_pos (by omega)]), fun h => ⟨fun h => bad m1 2 (by decide) ke.2.2 (by unfold jitE; rw [if_neg hn, if_neg (by omega), if_pos (by omega)]), fun h => ?_⟩⟩⟩⟩⟩
  have hE : jitE s due k len = 0 := by unfold jitE; rw [if_neg hn, if_neg (by omega), if_neg (by omega)]
  refine ⟨hs, fun m2 hm2 x4 _ _ h4 => ⟨(hg.sub hm1).sub hm2, fun m3 hm3 x5 _ _ h5 => ⟨trivial, fun m4 hm4 x6 _ _ x7 _ _ h6 => ?_⟩⟩⟩
  have h4 : x4 = keyH seed s due k := h4
  have h5 : x5 = mixH x4 := h5
  obtain ⟨h6, h7⟩ := h6
  obtain ⟨q1, q2, q3, q4⟩ := jitV_rng seed s due k (len := len) (by omega) (by omega)
  refine ⟨fun hne => ?_, fun h0 x8 e8 r8 s8 => ⟨⟨r8, s8⟩, kz, hE.symm, ?_⟩⟩
  ·have hl0 : len = 0 := by
    rcases Int.lt_trichotomy len 0 with g | g | g
    ·exact (hne (h7 (by omega)).2).elim
    ·exact g
    ·exact (hne (h7 (by omega)).2).elim
   refine ⟨kz, kz, hE.symm, ?_⟩
   rw [if_pos hE, q4 hl0]
  ·rw [if_pos hE]
   have hl0 : len ≠ 0 := fun g => by
    have := (h6 g).2
    rw [h0] at this; cases this
   have hx : x6 = jitV seed s due k len := by rw [(h7 hl0).1, h5, h4]; rfl
   rw [e8, hx]
   exact wrap_id (by show (-9223372036854775808 : Int) ≤ _; omega) (by show _ ≤ (9223372036854775807 : Int); omega)
theorem jWt_ok : SpOk Tryz.prog jWt :=
 con_ok (sps_of [hKey, mMix, mBel, lNam] ⟨hKey_ok, ⟨mMix_ok, ⟨mBel_ok, ⟨lNam_ok, trivial⟩⟩⟩⟩ rfl) (tab_ok _ []) 1000 jWt _ rfl rfl (Eq.mp (show jWt_VC = _ by kernel_rfl) jWt_vc)
def bkC_pre (a b c d : Int) (m : Mem) : Prop := True
def bkC_post (a b c d : Int) (m : Mem) (e : Int) : Prop := e = As.retP_ ⟨a, b, c, d⟩
def bkC : Sp := { args := [.i .i64, .i .i64, .i .i64, .i .i64], grp := [some 4], res := [.i .i64], rgrp := [none], fn := 79, spec := fun a0 a1 a2 a3 => (bkC_pre a0 a1 a2 a3, bkC_post a0 a1 a2 a3) }
def bkC_VC : Prop := ∀ m : Mem, ∀ x0 : Int, mi ≤ x0 → x0 ≤ ma → ∀ x1 : Int, mi ≤ x1 → x1 ≤ ma → ∀ x2 : Int, mi ≤ x2 → x2 ≤ ma → ∀ x3 : Int, mi ≤ x3 → x3 ≤ ma → bkC_pre x0 x1 x2 x3 m →
 (((x0 = 0 ∧ (x1 = 0 ∧ (x2 = 0 ∧ x3 = 0))) →
 ((K.i64 0) ∧ bkC_post x0 x1 x2 x3 m 0)) ∧
 ((x0 = 0 → (x1 = 0 → (x2 = 0 → x3 ≠ 0))) →
 ((x0 < 1 →
 ((K.i64 16) ∧ bkC_post x0 x1 x2 x3 m 16)) ∧
 (1 ≤ x0 →
 ((20 < x0 →
 ((K.i64 16) ∧ bkC_post x0 x1 x2 x3 m 16)) ∧
 (x0 ≤ 20 →
 ((x1 < 1 →
 ((K.i64 16) ∧ bkC_post x0 x1 x2 x3 m 16)) ∧
 (1 ≤ x1 →
 ((x2 < x1 →
 ((K.i64 16) ∧ bkC_post x0 x1 x2 x3 m 16)) ∧
 (x1 ≤ x2 →
 ((68719476736 < x2 →
 ((K.i64 16) ∧ bkC_post x0 x1 x2 x3 m 16)) ∧
 (x2 ≤ 68719476736 →
 ((x3 < 0 →
 ((K.i64 16) ∧ bkC_post x0 x1 x2 x3 m 16)) ∧
 (0 ≤ x3 →
 ((68719476736 < x3 →
 ((K.i64 16) ∧ bkC_post x0 x1 x2 x3 m 16)) ∧
 (x3 ≤ 68719476736 →
 ((K.i64 0) ∧ bkC_post x0 x1 x2 x3 m 0)))))))))))))))))
theorem bkC_vc : bkC_VC := by
 intro m a _ _ b _ _ c _ _ d _ _ _
 have kz : K.i64 0 := by constructor <;> decide
 have ke : K.i64 16 := by constructor <;> decide
 have bad : ¬ (a = 0 ∧ b = 0 ∧ c = 0 ∧ d = 0) → (a < 1 ∨ 20 < a ∨ b < 1 ∨ c < b ∨ 68719476736 < c ∨ d < 0 ∨ 68719476736 < d) → (K.i64 16) ∧ bkC_post a b c d m 16 := fun h h1 => ⟨ke, by
  rcases rule_two [inB a 1 20, inB b 1 spanM, inB c b spanM, inB d 0 spanM] with g | g
  ·exfalso
   rw [rule_zero] at g
   have g1 := g _ (List.mem_cons_self ..)
   have g2 := g (inB b 1 spanM) (by simp)
   have g3 := g (inB c b spanM) (by simp)
   have g4 := g (inB d 0 spanM) (by simp)
   simp only [inB, Bool.and_eq_true, decide_eq_true_eq, spanM] at g1 g2 g3 g4
   omega
  ·show 16 = As.retP_ ⟨a, b, c, d⟩
   unfold As.retP_
   rw [if_neg (fun e => by cases e; exact h ⟨rfl, rfl, rfl, rfl⟩)]
   exact g.symm⟩
 refine ⟨fun h => ⟨kz, ?_⟩, fun h => ?_⟩
 ·obtain ⟨rfl, rfl, rfl, rfl⟩ := h
  show (0 : Int) = As.retP_ ⟨0, 0, 0, 0⟩
  unfold As.retP_
  rw [if_pos rfl]
 have hn : ¬ (a = 0 ∧ b = 0 ∧ c = 0 ∧ d = 0) := fun g => h g.1 g.2.1 g.2.2.1 g.2.2.2
 refine ⟨fun g => bad hn (by omega), fun g1 => ⟨fun g => bad hn (by omega), fun g2 => ⟨fun g => bad hn (by omega), fun g3 => ⟨fun g => bad hn (by omega), fun g4 => ⟨fun g => bad hn (by omega), fun g5 => ⟨fun g => bad hn (by omega), fun g6 => ⟨fun g => bad hn (by omega), fun g7 => ⟨kz, ?_⟩⟩⟩⟩⟩⟩⟩⟩
 show (0 : Int) = As.retP_ ⟨a, b, c, d⟩
 unfold As.retP_
 rw [if_neg (fun e => by cases e; exact hn ⟨rfl, rfl, rfl, rfl⟩)]
 symm
 rw [rule_zero]
 intro x hx
 simp only [List.mem_cons, List.not_mem_nil, or_false] at hx
 rcases hx with rfl | rfl | rfl | rfl <;> (simp [inB, spanM]; omega)
theorem bkC_ok : SpOk Tryz.prog bkC :=
 con_ok (sps_of [] trivial rfl) (tab_ok _ []) 1000 bkC _ rfl rfl (Eq.mp (show bkC_VC = _ by kernel_rfl) bkC_vc)
def bkW_pre (a b c d k : Int) (m : Mem) : Prop := True
def bkW_post (a b c d k : Int) (m : Mem) (z e : Int) : Prop := (e = if As.retP_ ⟨a, b, c, d⟩ ≠ 0 then As.retP_ ⟨a, b, c, d⟩ else if k < 1 ∨ a < k then 3 else 0) ∧ z = if e = 0 then bkN b c (k - 1).toNat else 0
def bkW : Sp := { args := [.i .i64, .i .i64, .i .i64, .i .i64, .i .i64], grp := [some 4, none], res := [.i .i64, .i .i64], rgrp := [none, none], fn := 82, spec := fun a0 a1 a2 a3 a4 => (bkW_pre a0 a1 a2 a3 a4, bkW_post a0 a1 a2 a3 a4) }
def bkW_VC : Prop := ∀ m : Mem, ∀ x0 : Int, mi ≤ x0 → x0 ≤ ma → ∀ x1 : Int, mi ≤ x1 → x1 ≤ ma → ∀ x2 : Int, mi ≤ x2 → x2 ≤ ma → ∀ x3 : Int, mi ≤ x3 → x3 ≤ ma → ∀ x4 : Int, mi ≤ x4 → x4 ≤ ma → bkW_pre x0 x1 x2 x3 x4 m →
 (bkC_pre x0 x1 x2 x3 m ∧ ∀ m1 : Mem, MemSub m m1 → ∀ x5 : Int, mi ≤ x5 → x5 ≤ ma → bkC_post x0 x1 x2 x3 m1 x5 →
 ((x5 ≠ 0 →
 ((K.i64 0) ∧ (K.i64 x5) ∧ bkW_post x0 x1 x2 x3 x4 m1 0 x5)) ∧
 (x5 = 0 →
 (∃ F2 : Int → Int → Prop × Nat, ((K.i64 x1) ∧ (K.i64 0) ∧ (F2 x1 0).1) ∧
 ∀ x6 : Int, mi ≤ x6 → x6 ≤ ma → ∀ x7 : Int, mi ≤ x7 → x7 ≤ ma → (F2 x6 x7).1 →
 ((x7 < x0 →
 ((x7 + 1) ≤ 9223372036854775807 ∧ (((x7 + 1) = x4 →
 ((K.i64 x6) ∧ (K.i64 0) ∧ bkW_post x0 x1 x2 x3 x4 m1 x6 0)) ∧
 ((x7 + 1) ≠ x4 →
 ((-9223372036854775808 : Int) ≤ (x6 + x6) ∧ ((x6 + x6) ≤ 9223372036854775807 ∧ (∀ x8 : Int, x8 = (bif false then max (x6 + x6) x2 else min (x6 + x6) x2) → (K.i64 x8) ∧ ((x7 + 1) ≤ 9223372036854775807 ∧ ((K.i64 x8) ∧ (mi ≤ (x7 + 1) ∧ (x7 + 1) ≤ ma) ∧ ((F2 x8 (x7 + 1)).1 ∧ (F2 x8 (x7 + 1)).2 < (F2 x6 x7).2)))))))))) ∧
 (x0 ≤ x7 →
 ((K.i64 0) ∧ (K.i64 3) ∧ bkW_post x0 x1 x2 x3 x4 m1 0 3)))))))
theorem bkW_vc : bkW_VC := by
 intro m a a1 a2 b b1 b2 c c1 c2 d d1 d2 k k1 k2 _
 have kz : K.i64 0 := by constructor <;> decide
 refine ⟨trivial, fun m1 hm1 e r1 r2 he => ?_⟩
 have he : e = As.retP_ ⟨a, b, c, d⟩ := he
 refine ⟨fun hne => ⟨kz, ⟨r1, r2⟩, by rw [← he, if_pos hne], by rw [if_neg hne]⟩, fun h0 => ?_⟩
 have hr : As.retP_ ⟨a, b, c, d⟩ = 0 := by rw [← he]; exact h0
 have ho := ret_ok hr
 simp only at ho
 have hbn : 1 ≤ a → ∀ n, 1 ≤ bkN b c n ∧ bkN b c n ≤ c := fun h n => bkN_rng (by omega) (by omega) n
 refine ⟨fun w y => (∃ n : Nat, y = n ∧ (n : Int) ≤ a ∧ w = bkN b c n ∧ (1 ≤ k → (n : Int) < k), (a - y).toNat), ⟨⟨b1, b2⟩, kz, 0, rfl, by omega, rfl, fun h => by omega⟩, ?_⟩
 rintro w _ _ y _ _ ⟨n, rfl, hn, rfl, hk⟩
 refine ⟨fun hlt => ⟨by omega, fun hit => ?_, fun hno => ?_⟩, fun hge => ?_⟩
 ·obtain ⟨q1, q2⟩ := hbn (by omega) n
  refine ⟨k64 (by omega) (by omega), kz, ?_, ?_⟩
  ·rw [hr, if_neg (by simp), if_neg (by omega)]
  ·rw [if_pos rfl, ← hit]
   congr 1
   omega
 ·obtain ⟨q1, q2⟩ := hbn (by omega) n
  refine ⟨by omega, by omega, fun w2 hw2 => ?_⟩
  have hw2 : w2 = bkN b c (n + 1) := hw2
  obtain ⟨q3, q4⟩ := hbn (by omega) (n + 1)
  exact ⟨by rw [hw2]; exact k64 (by omega) (by omega), by omega, by rw [hw2]; exact k64 (by omega) (by omega), k64 (by omega) (by omega), ⟨n + 1, by omega, by omega, hw2, fun h => by have := hk h; omega⟩, by first | omega | (simp only; omega)⟩
 ·refine ⟨kz, by constructor <;> decide, ?_, by rw [if_neg (by decide)]⟩
  rw [hr, if_neg (by simp), if_pos (by
   rcases Int.lt_or_le k 1 with g | g
   ·exact .inl g
   ·have := hk g; exact .inr (by omega))]
theorem bkW_ok : SpOk Tryz.prog bkW :=
 con_ok (sps_of [bkC] ⟨bkC_ok, trivial⟩ rfl) (tab_ok _ [⟨(25, 2), [], [], [], []⟩]) 1000 bkW _ rfl rfl (Eq.mp (show bkW_VC = _ by kernel_rfl) bkW_vc)
def rtL_pre (a b c d k : Int) (m : Mem) : Prop := True
def rtL_post (a b c d k : Int) (m : Mem) (z e : Int) : Prop := (e = if As.retP_ ⟨a, b, c, d⟩ ≠ 0 then As.retP_ ⟨a, b, c, d⟩ else if k < 1 ∨ a + 1 < k then 3 else 0) ∧ z = if e = 0 then a + 1 - k else 0
def rtL : Sp := { args := [.i .i64, .i .i64, .i .i64, .i .i64, .i .i64], grp := [some 4, none], res := [.i .i64, .i .i64], rgrp := [none, none], fn := 45, spec := fun a0 a1 a2 a3 a4 => (rtL_pre a0 a1 a2 a3 a4, rtL_post a0 a1 a2 a3 a4) }
def rtL_VC : Prop := ∀ m : Mem, ∀ x0 : Int, mi ≤ x0 → x0 ≤ ma → ∀ x1 : Int, mi ≤ x1 → x1 ≤ ma → ∀ x2 : Int, mi ≤ x2 → x2 ≤ ma → ∀ x3 : Int, mi ≤ x3 → x3 ≤ ma → ∀ x4 : Int, mi ≤ x4 → x4 ≤ ma → rtL_pre x0 x1 x2 x3 x4 m →
 (bkC_pre x0 x1 x2 x3 m ∧ ∀ m1 : Mem, MemSub m m1 → ∀ x5 : Int, mi ≤ x5 → x5 ≤ ma → bkC_post x0 x1 x2 x3 m1 x5 →
 ((x5 ≠ 0 →
 ((K.i64 0) ∧ (K.i64 x5) ∧ rtL_post x0 x1 x2 x3 x4 m1 0 x5)) ∧
 (x5 = 0 →
 ((x4 < 1 →
 ((K.i64 0) ∧ (K.i64 3) ∧ rtL_post x0 x1 x2 x3 x4 m1 0 3)) ∧
 (1 ≤ x4 →
 ((x0 + 1) ≤ 9223372036854775807 ∧ (((x0 + 1) < x4 →
 ((K.i64 0) ∧ (K.i64 3) ∧ rtL_post x0 x1 x2 x3 x4 m1 0 3)) ∧
 (x4 ≤ (x0 + 1) →
 ((x0 + 1) ≤ 9223372036854775807 ∧ ((-9223372036854775808 : Int) ≤ ((x0 + 1) - x4) ∧ ((mi ≤ ((x0 + 1) - x4) ∧ ((x0 + 1) - x4) ≤ ma) ∧ (K.i64 0) ∧ rtL_post x0 x1 x2 x3 x4 m1 ((x0 + 1) - x4) 0)))))))))))
theorem rtL_vc : rtL_VC := by
 intro m a _ _ b _ _ c _ _ d _ _ k k1 k2 _
 have kz : K.i64 0 := by constructor <;> decide
 have kt : K.i64 3 := by constructor <;> decide
 refine ⟨trivial, fun m1 hm1 e r1 r2 he => ?_⟩
 have he : e = As.retP_ ⟨a, b, c, d⟩ := he
 refine ⟨fun hne => ⟨kz, ⟨r1, r2⟩, by rw [← he, if_pos hne], by rw [if_neg hne]⟩, fun h0 => ?_⟩
 have hr : As.retP_ ⟨a, b, c, d⟩ = 0 := by rw [← he]; exact h0
 have ho := ret_ok hr
 simp only at ho
 refine ⟨fun h => ⟨kz, kt, by rw [hr, if_neg (by simp), if_pos (by omega)], by rw [if_neg (by decide)]⟩, fun h => ⟨by omega, fun h => ⟨kz, kt, by rw [hr, if_neg (by simp), if_pos (by omega)], by rw [if_neg (by decide)]⟩, fun h => ⟨by omega, by omega, k64 (by omega) (by omega), kz, by rw [hr, if_neg (by simp), if_neg (by omega)], by rw [if_pos rfl]⟩⟩⟩
theorem rtL_ok : SpOk Tryz.prog rtL :=
 con_ok (sps_of [bkC] ⟨bkC_ok, trivial⟩ rfl) (tab_ok _ []) 1000 rtL _ rfl rfl (Eq.mp (show rtL_VC = _ by kernel_rfl) rtL_vc)
def rtN_pre (a b c d seed : Int) (s : List UInt8) (due k now : Int) (m : Mem) : Prop := Globs m glMx ∧ s.length ≤ 9223372036854775807
def rtN_post (a b c d seed : Int) (s : List UInt8) (due k now : Int) (m : Mem) (z : Int) (b0 : Bool) (e : Int) : Prop := (z, b0, e) = nxt ⟨a, b, c, d⟩ seed s due k now
def rtN : Sp := { args := [.i .i64, .i .i64, .i .i64, .i .i64, .i .u64, .s, .i .i64, .i .i64, .i .i64], grp := [some 4, none, none, none, none, none], res := [.i .i64, .b, .i .i64], rgrp := [none, none, none], fn := 15, spec := fun a0 a1 a2 a3 a4 a5 a6 a7 a8 => (rtN_pre a0 a1 a2 a3 a4 a5 a6 a7 a8, rtN_post a0 a1 a2 a3 a4 a5 a6 a7 a8) }
def rtN_VC : Prop := ∀ m : Mem, ∀ x0 : Int, mi ≤ x0 → x0 ≤ ma → ∀ x1 : Int, mi ≤ x1 → x1 ≤ ma → ∀ x2 : Int, mi ≤ x2 → x2 ≤ ma → ∀ x3 : Int, mi ≤ x3 → x3 ≤ ma → ∀ x4 : Int, IntKind.u64.min ≤ x4 → x4 ≤ IntKind.u64.max → ∀ s0 : List UInt8, ∀ x5 : Int, mi ≤ x5 → x5 ≤ ma → ∀ x6 : Int, mi ≤ x6 → x6 ≤ ma → ∀ x7 : Int, mi ≤ x7 → x7 ≤ ma → rtN_pre x0 x1 x2 x3 x4 s0 x5 x6 x7 m →
 (bkC_pre x0 x1 x2 x3 m ∧ ∀ m1 : Mem, MemSub m m1 → ∀ x8 : Int, mi ≤ x8 → x8 ≤ ma → bkC_post x0 x1 x2 x3 m1 x8 →
 ((x8 ≠ 0 →
 ((K.i64 0) ∧ (K.i64 x8) ∧ rtN_post x0 x1 x2 x3 x4 s0 x5 x6 x7 m1 0 false x8)) ∧
 (x8 = 0 →
 (jWt_pre x4 s0 x5 1 0 m1 ∧ ∀ m2 : Mem, MemSub m1 m2 → ∀ x9 : Int, mi ≤ x9 → x9 ≤ ma → ∀ x10 : Int, mi ≤ x10 → x10 ≤ ma → jWt_post x4 s0 x5 1 0 m2 x9 x10 →
 ((x10 ≠ 0 →
 ((K.i64 0) ∧ (K.i64 x10) ∧ rtN_post x0 x1 x2 x3 x4 s0 x5 x6 x7 m2 0 false x10)) ∧
 (x10 = 0 →
 ((0 ≤ x7 →
 ((253402300799 < x7 →
 ((K.i64 0) ∧ (K.i64 14) ∧ rtN_post x0 x1 x2 x3 x4 s0 x5 x6 x7 m2 0 false 14)) ∧
 (x7 ≤ 253402300799 →
 (rtL_pre x0 x1 x2 x3 x6 m2 ∧ ∀ m3 : Mem, MemSub m2 m3 → ∀ x11 : Int, mi ≤ x11 → x11 ≤ ma → ∀ x12 : Int, mi ≤ x12 → x12 ≤ ma → rtL_post x0 x1 x2 x3 x6 m3 x11 x12 →
 ((x12 ≠ 0 →
 ((K.i64 0) ∧ (K.i64 x12) ∧ rtN_post x0 x1 x2 x3 x4 s0 x5 x6 x7 m3 0 false x12)) ∧
 (x12 = 0 →
 ((x11 = 0 →
 ((K.i64 0) ∧ (K.i64 x12) ∧ rtN_post x0 x1 x2 x3 x4 s0 x5 x6 x7 m3 0 false x12)) ∧
 (x11 ≠ 0 →
 (bkW_pre x0 x1 x2 x3 x6 m3 ∧ ∀ m4 : Mem, MemSub m3 m4 → ∀ x13 : Int, mi ≤ x13 → x13 ≤ ma → ∀ x14 : Int, mi ≤ x14 → x14 ≤ ma → bkW_post x0 x1 x2 x3 x6 m4 x13 x14 →
 (jWt_pre x4 s0 x5 x6 x3 m4 ∧ ∀ m5 : Mem, MemSub m4 m5 → ∀ x15 : Int, mi ≤ x15 → x15 ≤ ma → ∀ x16 : Int, mi ≤ x16 → x16 ≤ ma → jWt_post x4 s0 x5 x6 x3 m5 x15 x16 →
 ((-9223372036854775808 : Int) ≤ (x13 + x15) ∧ ((x13 + x15) ≤ 9223372036854775807 ∧ ((-9223372036854775808 : Int) ≤ (x7 + (x13 + x15)) ∧ ((x7 + (x13 + x15)) ≤ 9223372036854775807 ∧ ((mi ≤ (x7 + (x13 + x15)) ∧ (x7 + (x13 + x15)) ≤ ma) ∧ (K.i64 0) ∧ rtN_post x0 x1 x2 x3 x4 s0 x5 x6 x7 m5 (x7 + (x13 + x15)) true 0))))))))))))))) ∧
 (x7 < 0 →
 ((K.i64 0) ∧ (K.i64 14) ∧ rtN_post x0 x1 x2 x3 x4 s0 x5 x6 x7 m2 0 false 14)))))))))
theorem rtN_vc : rtN_VC := by
 intro m a _ _ b _ _ c _ _ d _ _ seed _ _ s due _ _ k _ _ now _ _ ⟨hg, hs⟩
 have kz : K.i64 0 := by constructor <;> decide
 have k14 : K.i64 14 := by constructor <;> decide
 refine ⟨trivial, fun m1 hm1 e r1 r2 he => ?_⟩
 have he : e = As.retP_ ⟨a, b, c, d⟩ := he
 refine ⟨fun hne => ⟨kz, ⟨r1, r2⟩, ?_⟩, fun h0 => ?_⟩
 ·show (0, false, e) = nxt ⟨a, b, c, d⟩ seed s due k now
  unfold nxt
  rw [if_pos (by rw [← he]; exact hne), he]
 have hr : As.retP_ ⟨a, b, c, d⟩ = 0 := by rw [← he]; exact h0
 have ho := ret_ok hr
 simp only at ho
 refine ⟨⟨hg.sub hm1, hs⟩, fun m2 hm2 x9 _ _ x10 q1 q2 hj => ?_⟩
 obtain ⟨hj, _⟩ := hj
 have hjE : jitE s due 1 0 = if nameB s = false then 15 else if due < 0 ∨ 253402300799 < due then 14 else 0 := by
  unfold jitE
  rw [if_neg (by omega : ¬ ((1 : Int) < 1 ∨ (21 : Int) < 1 ∨ (0 : Int) < 0 ∨ (68719476736 : Int) < 0))]
 refine ⟨fun hne => ⟨kz, ⟨q1, q2⟩, ?_⟩, fun h0' => ?_⟩
 ·show (0, false, x10) = nxt ⟨a, b, c, d⟩ seed s due k now
  unfold nxt
  rw [if_neg (by rw [hr]; simp)]
  by_cases hn : nameB s = false
  ·rw [if_pos hn, hj, hjE, if_pos hn]
  ·rw [if_neg hn]
   by_cases hd : due < 0 ∨ 253402300799 < due
   ·rw [if_pos hd, hj, hjE, if_neg hn, if_pos hd]
   ·exfalso
    rw [hj, hjE, if_neg hn, if_neg hd] at hne
    exact hne rfl
 have hn : ¬ nameB s = false := fun hn => by rw [hj, hjE, if_pos hn] at h0'; cases h0'
 have hd : ¬ (due < 0 ∨ 253402300799 < due) := fun hd => by rw [hj, hjE, if_neg hn, if_pos hd] at h0'; cases h0'
 have hx : nxt ⟨a, b, c, d⟩ seed s due k now = if now < 0 ∨ 253402300799 < now then (0, false, 14) else if k < 1 ∨ a + 1 < k then (0, false, 3) else if k = a + 1 then (0, false, 0) else (now + (bkN b c (k - 1).toNat + jitV seed s due k d), true, 0) := by
  unfold nxt
  rw [if_neg (by rw [hr]; simp), if_neg hn, if_neg hd]
 refine ⟨fun h7 => ⟨fun h => ⟨kz, k14, ?_⟩, fun h => ?_⟩, fun h7 => ⟨kz, k14, ?_⟩⟩
 ·show (0, false, 14) = nxt ⟨a, b, c, d⟩ seed s due k now
  rw [hx, if_pos (by omega)]
 ·have hnow : ¬ (now < 0 ∨ 253402300799 < now) := by omega
  refine ⟨trivial, fun m3 hm3 x11 _ _ x12 g1 g2 hL => ?_⟩
  obtain ⟨hL1, hL2⟩ := hL
  rw [hr, if_neg (by simp)] at hL1
  refine ⟨fun hne => ⟨kz, ⟨g1, g2⟩, ?_⟩, fun h12 => ⟨fun hz => ⟨kz, ⟨g1, g2⟩, ?_⟩, fun hnz => ?_⟩⟩
  ·have hk : k < 1 ∨ a + 1 < k := by
    by_cases hk : k < 1 ∨ a + 1 < k
    ·exact hk
    ·rw [if_neg hk] at hL1; exact (hne hL1).elim
   show (0, false, x12) = nxt ⟨a, b, c, d⟩ seed s due k now
   rw [hx, if_neg hnow, if_pos hk, hL1, if_pos hk]
  ·have hk : ¬ (k < 1 ∨ a + 1 < k) := fun hk => by rw [if_pos hk, h12] at hL1; cases hL1
   rw [if_pos h12] at hL2
   show (0, false, x12) = nxt ⟨a, b, c, d⟩ seed s due k now
   rw [hx, if_neg hnow, if_neg hk, if_pos (by omega), h12]
  ·have hk : ¬ (k < 1 ∨ a + 1 < k) := fun hk => by rw [if_pos hk, h12] at hL1; cases hL1
   rw [if_pos h12] at hL2
   refine ⟨trivial, fun m4 hm4 x13 _ _ x14 _ _ hW => ⟨⟨(((hg.sub hm1).sub hm2).sub hm3).sub hm4, hs⟩, fun m5 hm5 x15 _ _ x16 _ _ hJ => ?_⟩⟩
   obtain ⟨hW1, hW2⟩ := hW
   rw [hr, if_neg (by simp), if_neg (by omega)] at hW1
   rw [if_pos hW1] at hW2
   obtain ⟨_, hJ2⟩ := hJ
   have hjE2 : jitE s due k d = 0 := by unfold jitE; rw [if_neg hn, if_neg hd, if_neg (by omega)]
   rw [if_pos hjE2] at hJ2
   obtain ⟨w1, w2⟩ := bkN_rng (b := b) (c := c) (by omega) (by omega) (k - 1).toNat
   obtain ⟨j1, j2, _, _⟩ := jitV_rng seed s due k (len := d) (by omega) (by omega)
   rw [← hW2] at w1 w2
   rw [← hJ2] at j1 j2
   refine ⟨by omega, by omega, by omega, by omega, k64 (by omega) (by omega), kz, ?_⟩
   show (now + (x13 + x15), true, 0) = nxt ⟨a, b, c, d⟩ seed s due k now
   rw [hx, if_neg hnow, if_neg hk, if_neg (by omega), hW2, hJ2]
 ·show (0, false, 14) = nxt ⟨a, b, c, d⟩ seed s due k now
  rw [hx, if_pos (by omega)]
theorem rtN_ok : SpOk Tryz.prog rtN :=
 con_ok (sps_of [bkC, bkW, jWt, rtL] ⟨bkC_ok, ⟨bkW_ok, ⟨jWt_ok, ⟨rtL_ok, trivial⟩⟩⟩⟩ rfl) (tab_ok _ []) 1000 rtN _ rfl rfl (Eq.mp (show rtN_VC = _ by kernel_rfl) rtN_vc)
end Go.Proofs.YtmpbddmbpeoehaaGreatDoor.Vc
