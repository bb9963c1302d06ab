/-
  Contracts, by their trees; Contracts, by their trees; Contracts, by their trees; Contracts, by their trees; Contracts, by their trees.
-/
import Derived.Test.YtjabmipkllkfbaaGreatDoorYH
import Derived.Test.YtjabmipkllkfbaaGreatDoorYG
import Derived.Test.YtjabmipkllkfbaaGreatDoorYF
import Derived.Test.YtjabmipkllkfbaaGreatDoorYI
set_option linter.unusedVariables false
set_option linter.unusedSimpArgs false
set_option maxHeartbeats 4000000
namespace Go.Proofs.YtjabmipkllkfbaaGreatDoor.Vc
abbrev u64I (z : Int) : Prop := 0 ≤ z ∧ z ≤ 18446744073709551615
theorem wrapI_rng (k : IntKind) (z : Int) : k.min ≤ k.wrap z ∧ k.wrap z ≤ k.max := by
 cases k <;> simp [IntKind.min, IntKind.max, IntKind.wrap, IntKind.signed, IntKind.bits] <;> (try split) <;> omega
theorem wrapU_rng (z : Int) : u64I (IntKind.u64.wrap z) := wrapI_rng .u64 z
theorem mul64_rng (x y : Int) : u64I (arithV .mul .u64 x y) := wrapI_rng .u64 _
theorem and64_rng (x y : Int) : u64I (arithV .and .u64 x y) := wrapI_rng .u64 _
theorem xor64_rng (x y : Int) : u64I (arithV .xor .u64 x y) := wrapI_rng .u64 _
theorem shr64 {x : Int} (h : 0 ≤ x) (s : Nat) (hs : s ≤ 64) : arithV .shr .u64 x (s : Int) = x / ((2 ^ s : Nat) : Int) := by
 show x.fdiv (2 ^ (min (s : Int).toNat 64)) = _
 rw [Int.toNat_natCast, Nat.min_eq_left hs, Int.fdiv_eq_ediv_of_nonneg _ (Int.le_of_lt (Int.pow_pos (by decide)))]
 rw [Int.natCast_pow]
 rfl
theorem shr64_rng {x : Int} (h : u64I x) (s : Nat) (hs : s ≤ 64) : u64I (arithV .shr .u64 x (s : Int)) := by
 rw [shr64 h.1 s hs]
 have hp : (0 : Int) ≤ ((2 ^ s : Nat) : Int) := Int.natCast_nonneg _
 have h1 := Int.ediv_nonneg h.1 hp
 have h2 := Int.ediv_le_self ((2 ^ s : Nat) : Int) h.1
 have h3 := h.2
 exact ⟨h1, by omega⟩
theorem mask64 {x : Int} (h : u64I x) : arithV .and .u64 x 4294967295 = x % 4294967296 := by
 obtain ⟨n, rfl⟩ := Int.eq_ofNat_of_zero_le h.1
 have hn : n < 18446744073709551616 := by have := h.2; omega
 show IntKind.u64.wrap (BitVec.ofInt 64 (n : Int) &&& BitVec.ofInt 64 4294967295).toNat = _
 have e1 : BitVec.ofInt 64 (n : Int) = BitVec.ofNat 64 n := BitVec.ofInt_natCast ..
 have e2 : BitVec.ofInt 64 4294967295 = BitVec.ofNat 64 4294967295 := BitVec.ofInt_natCast 64 4294967295
 rw [e1, e2, BitVec.toNat_and, BitVec.toNat_ofNat, BitVec.toNat_ofNat, Nat.mod_eq_of_lt hn, Nat.mod_eq_of_lt (by decide : 4294967295 < 2 ^ 64)]
 have e3 : n &&& 4294967295 = n % 4294967296 := Nat.and_two_pow_sub_one_eq_mod n 32
 rw [e3, wrap_id (by show (0 : Int) ≤ _; omega) (by show ((n % 4294967296 : Nat) : Int) ≤ 18446744073709551615; omega)]
 omega
theorem mul64_at {x y : Int} (h0 : 0 ≤ x * y) (h1 : x * y ≤ 18446744073709551615) : arithV .mul .u64 x y = x * y := by
 show IntKind.u64.wrap (x * y) = x * y
 exact wrap_id h0 h1
theorem wrapU_at {x : Int} (h0 : 0 ≤ x) (h1 : x ≤ 18446744073709551615) : IntKind.u64.wrap x = x := wrap_id h0 h1
theorem mul_part {x y : Int} (hx : 0 ≤ x ∧ x ≤ 4294967295) (hy : 0 ≤ y ∧ y ≤ 4294967295) : 0 ≤ x * y ∧ x * y ≤ 18446744065119617025 := by
 refine ⟨Int.mul_nonneg hx.1 hy.1, ?_⟩
 have := Int.mul_le_mul hx.2 hy.2 hy.1 (by decide)
 omega
def belowH (x n : Int) : Int := x * n / 18446744073709551616
theorem below_hi {x n x2 x3 x4 x5 x6 x7 x8 x9 x10 x11 x12 x13 x14 x16 : Int} (hx : u64I x) (hn : u64I n) (e2 : x2 = x % 4294967296) (e3 : x3 = x / 4294967296) (e4 : x4 = n % 4294967296) (e5 : x5 = n / 4294967296)
  (e6 : x6 = x2 * x4) (e7 : x7 = x3 * x4) (e8 : x8 = x6 / 4294967296) (e9 : x9 = x7 + x8) (e10 : x10 = x9 % 4294967296) (e11 : x11 = x9 / 4294967296) (e12 : x12 = x2 * x5) (e13 : x13 = x10 + x12) (e14 : x14 = x3 * x5) (e16 : x16 = x13 / 4294967296) : x14 + x11 + x16 = belowH x n := by
 have a1 : x = x3 * 4294967296 + x2 := by omega
 have a2 : n = x5 * 4294967296 + x4 := by omega
 have key : x * n = x14 * 18446744073709551616 + (x7 + x12) * 4294967296 + x6 := by
  rw [e14, e7, e12, e6]
  conv => lhs; rw [a1, a2]
  rw [Int.add_mul, Int.mul_add, Int.mul_add, Int.add_mul]
  have t1 : x3 * 4294967296 * (x5 * 4294967296) = x3 * x5 * 18446744073709551616 := by
   rw [Int.mul_assoc, Int.mul_left_comm 4294967296, Int.mul_assoc]; rfl
  have t2 : x3 * 4294967296 * x4 = x3 * x4 * 4294967296 := by rw [Int.mul_assoc, Int.mul_comm 4294967296, Int.mul_assoc]
  have t3 : x2 * (x5 * 4294967296) = x2 * x5 * 4294967296 := by rw [Int.mul_assoc]
  rw [t1, t2, t3]
  omega
 unfold belowH
 rw [key]
 have b2 : 0 ≤ x2 ∧ x2 ≤ 4294967295 := by omega
 have b4 : 0 ≤ x4 ∧ x4 ≤ 4294967295 := by omega
 have m6 := mul_part b2 b4
 rw [← e6] at m6
 clear key a1 a2
 generalize x * n = p at *
 omega
theorem below_rng {x n : Int} (hx : u64I x) (hn : u64I n) : u64I (belowH x n) ∧ (n ≠ 0 → belowH x n < n) := by
 have h1 : 0 ≤ x * n := Int.mul_nonneg hx.1 hn.1
 have h2 : x * n ≤ 18446744073709551615 * n := Int.mul_le_mul_of_nonneg_right hx.2 hn.1
 unfold belowH
 have := hn.2
 have := hn.1
 generalize x * n = p at *
 exact ⟨⟨by omega, by omega⟩, fun h => by omega⟩
def mxStep (s k : Int) (x : Int) : Int := arithV .mul .u64 (arithV .xor .u64 x (arithV .shr .u64 x s)) k
def mixH (x : Int) : Int := mxStep 31 1 (mxStep 27 10723151780598845931 (mxStep 30 13787848793156543929 x))
def mMix_pre (x : Int) (m : Mem) : Prop := Globs m glMx
def mMix_post (x : Int) (m : Mem) (z : Int) : Prop := z = mixH x
def mMix : Sp := { args := [.i .u64], grp := [none], res := [.i .u64], rgrp := [none], fn := 168, spec := fun a0 => (mMix_pre a0, mMix_post a0) }
def mMix_VC : Prop := ∀ m : Mem, ∀ x0 : Int, IntKind.u64.min ≤ x0 → x0 ≤ IntKind.u64.max → mMix_pre x0 m →
 (arithP BinOp.shr 30 ∧ ∀ x1 : Int, x1 = arithV BinOp.shr IntKind.u64 x0 30 → (K.u64 x1) ∧ (arithP BinOp.xor x1 ∧ ∀ x2 : Int, x2 = arithV BinOp.xor IntKind.u64 x0 x1 → (K.u64 x2) ∧ (arithP BinOp.mul 13787848793156543929 ∧ ∀ x3 : Int, x3 = arithV BinOp.mul IntKind.u64 x2 13787848793156543929 → (K.u64 x3) ∧ (arithP BinOp.shr 27 ∧ ∀ x4 : Int, x4 = arithV BinOp.shr IntKind.u64 x3 27 → (K.u64 x4) ∧ (arithP BinOp.xor x4 ∧ ∀ x5 : Int, x5 = arithV BinOp.xor IntKind.u64 x3 x4 → (K.u64 x5) ∧ (arithP BinOp.mul 10723151780598845931 ∧ ∀ x6 : Int, x6 = arithV BinOp.mul IntKind.u64 x5 10723151780598845931 → (K.u64 x6) ∧ (arithP BinOp.shr 31 ∧ ∀ x7 : Int, x7 = arithV BinOp.shr IntKind.u64 x6 31 → (K.u64 x7) ∧ (arithP BinOp.xor x7 ∧ ∀ x8 : Int, x8 = arithV BinOp.xor IntKind.u64 x6 x7 → (K.u64 x8) ∧ (arithP BinOp.mul 1 ∧ ∀ x9 : Int, x9 = arithV BinOp.mul IntKind.u64 x8 1 → (K.u64 x9) ∧ ((K.u64 x9) ∧ mMix_post x0 m x9))))))))))
theorem mMix_vc : mMix_VC := by
 intro m x h1 h2 _
 have hx : u64I x := ⟨h1, h2⟩
 refine ⟨(by show (0 : Int) ≤ 30; decide), fun x1 e1 => ⟨by rw [e1]; exact shr64_rng hx 30 (by decide), trivial, fun x2 e2 => ⟨by rw [e2]; exact xor64_rng _ _, trivial, fun x3 e3 => ⟨by rw [e3]; exact mul64_rng _ _, (by show (0 : Int) ≤ 27; decide), fun x4 e4 => ⟨by rw [e4]; exact shr64_rng (by rw [e3]; exact mul64_rng _ _) 27 (by decide), trivial, fun x5 e5 => ⟨by rw [e5]; exact xor64_rng _ _, trivial, fun x6 e6 => ⟨by rw [e6]; exact mul64_rng _ _, (by show (0 : Int) ≤ 31; decide), fun x7 e7 => ⟨by rw [e7]; exact shr64_rng (by rw [e6]; exact mul64_rng _ _) 31 (by decide), trivial, fun x8 e8 => ⟨by rw [e8]; exact xor64_rng _ _, trivial, fun x9 e9 => ?_⟩⟩⟩⟩⟩⟩⟩⟩⟩
 have hr : u64I x9 := by rw [e9]; exact mul64_rng _ _
 refine ⟨hr, hr, ?_⟩
 show x9 = mixH x
 rw [e9, e8, e7, e6, e5, e4, e3, e2, e1]
 rfl
theorem mMix_pg : ∀ m, forallF mMix.args mMix.spec fun r => r.1 m → GlobsAt m glMx := fun m a h => h.h
theorem mMix_ok : SpOk Tryz.prog mMix :=
 con_okG glMx rfl (sps_of [] trivial rfl) (tab_ok _ []) 1000 mMix _ rfl rfl mMix_pg (Eq.mp (show mMix_VC = _ by kernel_rfl) mMix_vc)
def mBel_pre (x n : Int) (m : Mem) : Prop := True
def mBel_post (x n : Int) (m : Mem) (z e : Int) : Prop := (n = 0 → z = 0 ∧ e = 2) ∧ (n ≠ 0 → z = belowH x n ∧ e = 0)
def mBel : Sp := { args := [.i .u64, .i .u64], grp := [none, none], res := [.i .u64, .i .i64], rgrp := [none, none], fn := 167, spec := fun a0 a1 => (mBel_pre a0 a1, mBel_post a0 a1) }
def mBel_VC : Prop := ∀ m : Mem, ∀ x0 : Int, IntKind.u64.min ≤ x0 → x0 ≤ IntKind.u64.max → ∀ x1 : Int, IntKind.u64.min ≤ x1 → x1 ≤ IntKind.u64.max → mBel_pre x0 x1 m →
 ((x1 = 0 →
 ((K.u64 0) ∧ (K.i64 2) ∧ mBel_post x0 x1 m 0 2)) ∧
 (x1 ≠ 0 →
 (arithP BinOp.and 4294967295 ∧ ∀ x2 : Int, x2 = arithV BinOp.and IntKind.u64 x0 4294967295 → (K.u64 x2) ∧ (arithP BinOp.shr 32 ∧ ∀ x3 : Int, x3 = arithV BinOp.shr IntKind.u64 x0 32 → (K.u64 x3) ∧ (arithP BinOp.and 4294967295 ∧ ∀ x4 : Int, x4 = arithV BinOp.and IntKind.u64 x1 4294967295 → (K.u64 x4) ∧ (arithP BinOp.shr 32 ∧ ∀ x5 : Int, x5 = arithV BinOp.shr IntKind.u64 x1 32 → (K.u64 x5) ∧ (arithP BinOp.mul x4 ∧ ∀ x6 : Int, x6 = arithV BinOp.mul IntKind.u64 x2 x4 → (K.u64 x6) ∧ (arithP BinOp.mul x4 ∧ ∀ x7 : Int, x7 = arithV BinOp.mul IntKind.u64 x3 x4 → (K.u64 x7) ∧ (arithP BinOp.shr 32 ∧ ∀ x8 : Int, x8 = arithV BinOp.shr IntKind.u64 x6 32 → (K.u64 x8) ∧ (∀ x9 : Int, x9 = IntKind.u64.wrap (x7 + x8) → IntKind.u64.min ≤ x9 → x9 ≤ IntKind.u64.max → (arithP BinOp.and 4294967295 ∧ ∀ x10 : Int, x10 = arithV BinOp.and IntKind.u64 x9 4294967295 → (K.u64 x10) ∧ (arithP BinOp.shr 32 ∧ ∀ x11 : Int, x11 = arithV BinOp.shr IntKind.u64 x9 32 → (K.u64 x11) ∧ (arithP BinOp.mul x5 ∧ ∀ x12 : Int, x12 = arithV BinOp.mul IntKind.u64 x2 x5 → (K.u64 x12) ∧ (∀ x13 : Int, x13 = IntKind.u64.wrap (x10 + x12) → IntKind.u64.min ≤ x13 → x13 ≤ IntKind.u64.max → (arithP BinOp.mul x5 ∧ ∀ x14 : Int, x14 = arithV BinOp.mul IntKind.u64 x3 x5 → (K.u64 x14) ∧ (∀ x15 : Int, x15 = IntKind.u64.wrap (x14 + x11) → IntKind.u64.min ≤ x15 → x15 ≤ IntKind.u64.max → (arithP BinOp.shr 32 ∧ ∀ x16 : Int, x16 = arithV BinOp.shr IntKind.u64 x13 32 → (K.u64 x16) ∧ (∀ x17 : Int, x17 = IntKind.u64.wrap (x15 + x16) → IntKind.u64.min ≤ x17 → x17 ≤ IntKind.u64.max → (arithP BinOp.mul x1 ∧ ∀ x18 : Int, x18 = arithV BinOp.mul IntKind.u64 x0 x1 → (K.u64 x18) ∧ ((K.u64 x17) ∧ (K.i64 0) ∧ mBel_post x0 x1 m x17 0))))))))))))))))))))
theorem mBel_vc : mBel_VC := by
 intro m x a1 a2 n b1 b2 _
 have hx : u64I x := ⟨a1, a2⟩
 have hn : u64I n := ⟨b1, b2⟩
 have k0 : IntKind.u64.min ≤ 0 ∧ 0 ≤ IntKind.u64.max := by constructor <;> decide
 refine ⟨fun h => ⟨k0, by constructor <;> decide, fun _ => ⟨rfl, rfl⟩, fun g => (g h).elim⟩, fun h => ?_⟩
 refine ⟨trivial, ?_⟩
 intro x2 e2
 refine ⟨by rw [e2]; exact and64_rng _ _, ?_⟩
 refine ⟨(by show (0 : Int) ≤ 32; decide), ?_⟩
 intro x3 e3
 refine ⟨by rw [e3]; exact shr64_rng hx 32 (by decide), ?_⟩
 refine ⟨trivial, ?_⟩
 intro x4 e4
 refine ⟨by rw [e4]; exact and64_rng _ _, ?_⟩
 refine ⟨(by show (0 : Int) ≤ 32; decide), ?_⟩
 intro x5 e5
 refine ⟨by rw [e5]; exact shr64_rng hn 32 (by decide), ?_⟩
 refine ⟨trivial, ?_⟩
 intro x6 e6
 refine ⟨by rw [e6]; exact mul64_rng _ _, ?_⟩
 refine ⟨trivial, ?_⟩
 intro x7 e7
 refine ⟨by rw [e7]; exact mul64_rng _ _, ?_⟩
 refine ⟨(by show (0 : Int) ≤ 32; decide), ?_⟩
 intro x8 e8
 refine ⟨by rw [e8]; exact shr64_rng (by rw [e6]; exact mul64_rng _ _) 32 (by decide), ?_⟩
 intro x9 e9 r9 s9
 refine ⟨trivial, ?_⟩
 intro x10 e10
 refine ⟨by rw [e10]; exact and64_rng _ _, ?_⟩
 refine ⟨(by show (0 : Int) ≤ 32; decide), ?_⟩
 intro x11 e11
 refine ⟨by rw [e11]; exact shr64_rng ⟨r9, s9⟩ 32 (by decide), ?_⟩
 refine ⟨trivial, ?_⟩
 intro x12 e12
 refine ⟨by rw [e12]; exact mul64_rng _ _, ?_⟩
 intro x13 e13 r13 s13
 refine ⟨trivial, ?_⟩
 intro x14 e14
 refine ⟨by rw [e14]; exact mul64_rng _ _, ?_⟩
 intro x15 e15 r15 s15
 refine ⟨(by show (0 : Int) ≤ 32; decide), ?_⟩
 intro x16 e16
 refine ⟨by rw [e16]; exact shr64_rng ⟨r13, s13⟩ 32 (by decide), ?_⟩
 intro x17 e17 r17 s17
 refine ⟨trivial, ?_⟩
 intro x18 e18
 refine ⟨by rw [e18]; exact mul64_rng _ _, ?_⟩
 refine ⟨⟨r17, s17⟩, by constructor <;> decide, fun g => (h g).elim, fun _ => ⟨?_, rfl⟩⟩
 have sh : ∀ z : Int, 0 ≤ z → arithV .shr .u64 z 32 = z / 4294967296 := fun z hz => shr64 hz 32 (by decide)
 rw [mask64 hx] at e2
 rw [sh x hx.1] at e3
 rw [mask64 hn] at e4
 rw [sh n hn.1] at e5
 have hx2 := hx.2; have hn2 := hn.2; have hx1 := hx.1; have hn1 := hn.1
 have b2 : 0 ≤ x2 ∧ x2 ≤ 4294967295 := by omega
 have b3 : 0 ≤ x3 ∧ x3 ≤ 4294967295 := by omega
 have b4 : 0 ≤ x4 ∧ x4 ≤ 4294967295 := by omega
 have b5 : 0 ≤ x5 ∧ x5 ≤ 4294967295 := by omega
 have m6 := mul_part b2 b4
 have m7 := mul_part b3 b4
 have m12 := mul_part b2 b5
 have m14 := mul_part b3 b5
 rw [mul64_at m6.1 (by omega)] at e6
 rw [mul64_at m7.1 (by omega)] at e7
 rw [mul64_at m12.1 (by omega)] at e12
 rw [mul64_at m14.1 (by omega)] at e14
 rw [← e6] at m6
 rw [← e7] at m7
 rw [← e12] at m12
 rw [← e14] at m14
 rw [sh x6 m6.1] at e8
 rw [wrapU_at (by omega) (by omega)] at e9
 rw [mask64 ⟨r9, s9⟩] at e10
 have r9' : (0 : Int) ≤ x9 := r9
 have s9' : x9 ≤ 18446744073709551615 := s9
 rw [sh x9 r9'] at e11
 rw [wrapU_at (by omega) (by omega)] at e13
 have r13' : (0 : Int) ≤ x13 := r13
 rw [sh x13 r13'] at e16
 have key := below_hi hx hn e2 e3 e4 e5 e6 e7 e8 e9 e10 e11 e12 e13 e14 e16
 have kr := (below_rng hx hn).1
 rw [wrapU_at (by omega) (by omega)] at e15
 rw [e17, e15, key]
 exact wrapU_at kr.1 kr.2
theorem mBel_ok : SpOk Tryz.prog mBel :=
 con_ok (sps_of [] trivial rfl) (tab_ok _ []) 1000 mBel _ rfl rfl (Eq.mp (show mBel_VC = _ by kernel_rfl) mBel_vc)
end Go.Proofs.YtjabmipkllkfbaaGreatDoor.Vc
namespace Go.Proofs.YtjabmipkllkfbaaGreatDoor.Vc
def hOne (h b : Int) : Int := arithV .mul .u64 (arithV .xor .u64 h b) 1099511628211
def hFold (h : Int) (bs : List Int) : Int := bs.foldl hOne h
theorem hFold_snoc (h : Int) (bs : List Int) (b : Int) : hFold h (bs ++ [b]) = hOne (hFold h bs) b := by unfold hFold; rw [List.foldl_append]; rfl
theorem hFold_rng {h : Int} (hh : u64I h) (bs : List Int) : u64I (hFold h bs) := by
 rcases List.eq_nil_or_concat bs with e | ⟨l, b, e⟩
 ·rw [e]; exact hh
 ·rw [e, List.concat_eq_append, hFold_snoc]; exact mul64_rng _ _
def byI (s : List UInt8) : List Int := s.map fun b => (b.toNat : Int)
def hTxt (h : Int) (s : List UInt8) : Int := hFold h (byI s)
def nByte (n : Int) (i : Nat) : Int := IntKind.u8.wrap (arithV .shr .u64 (IntKind.u64.wrap n) ((8 * i : Nat) : Int))
def nBytes (n : Int) : List Int := [nByte n 0, nByte n 1, nByte n 2, nByte n 3, nByte n 4, nByte n 5, nByte n 6, nByte n 7]
def hNumV (h n : Int) : Int := hFold h (nBytes n)
theorem wrap8 (z : Int) : 0 ≤ IntKind.u8.wrap z ∧ IntKind.u8.wrap z ≤ 255 := wrapI_rng .u8 z
theorem nBytes_rng (n : Int) : ∀ x ∈ nBytes n, 0 ≤ x ∧ x ≤ 255 := by
 intro x hx
 simp only [nBytes, List.mem_cons, List.not_mem_nil, or_false] at hx
 rcases hx with rfl | rfl | rfl | rfl | rfl | rfl | rfl | rfl <;> exact wrap8 _
theorem byI_ofNat : ∀ {ns : List Int}, (∀ x ∈ ns, 0 ≤ x ∧ x ≤ 255) → byI (ns.map fun n => UInt8.ofNat n.toNat) = ns := by
 intro ns
 induction ns with
 | nil => intro _; rfl
 | cons x ns ih =>
  intro h
  obtain ⟨h1, h2⟩ := h x (List.mem_cons_self ..)
  have := ih (fun y hy => h y (List.mem_cons_of_mem _ hy))
  simp only [byI, List.map_cons] at this ⊢
  rw [this]
  congr 1
  rw [UInt8.toNat_ofNat']
  omega
theorem txt_loop {s : List UInt8} {n0 : Nat} {r0 : List Value} {p0 : Addr} {h0 : Int} {Q : Int → Prop} (hl : ((s.length : Nat) : Int) ≤ 9223372036854775807) (hn : n0 = s.length) (hr : r0 = s.map (fun b => Value.int IntKind.u8 (b.toNat : Int))) (hh : u64I h0) (hQ : Q (hTxt h0 s)) :
  (∃ F1 : Int → Int → Prop × Nat, ((K.i64 0) ∧ (K.u64 h0) ∧ (F1 0 h0).1) ∧
   ∀ x2 : Int, IntKind.i64.min ≤ x2 → x2 ≤ IntKind.i64.max → ∀ x3 : Int, IntKind.u64.min ≤ x3 → x3 ≤ IntKind.u64.max → (F1 x2 x3).1 →
   ((x2 < (n0 : Int) →
   (0 ≤ x2 ∧ ((some p0) ≠ none ∧ ((0 ≤ (0 + x2) ∧ (0 + x2) + 1 ≤ (r0.length : Int)) ∧ (∃ x4 : Int, rowI r0 (0 + x2) = some (Value.int IntKind.u8 x4) ∧ (K.u8 x4) ∧ (arithP BinOp.xor x4 ∧ ∀ x5 : Int, x5 = arithV BinOp.xor IntKind.u64 x3 x4 → (K.u64 x5) ∧ (arithP BinOp.mul 1099511628211 ∧ ∀ x6 : Int, x6 = arithV BinOp.mul IntKind.u64 x5 1099511628211 → (K.u64 x6) ∧ ((x2 + 1) ≤ 9223372036854775807 ∧ ((IntKind.i64.min ≤ (x2 + 1) ∧ (x2 + 1) ≤ IntKind.i64.max) ∧ (K.u64 x6) ∧ ((F1 (x2 + 1) x6).1 ∧ (F1 (x2 + 1) x6).2 < (F1 x2 x3).2)))))))))) ∧
   ((n0 : Int) ≤ x2 → Q x3))) := by
 subst hn
 refine ⟨fun x2 x3 => (∃ i : Nat, x2 = i ∧ i ≤ s.length ∧ x3 = hTxt h0 (s.take i), ((s.length : Int) - x2).toNat), ⟨by constructor <;> decide, hh, 0, rfl, Nat.zero_le _, rfl⟩, ?_⟩
 rintro x2 k1 k2 x3 k3 k4 ⟨i, rfl, hi, rfl⟩
 refine ⟨fun hlt => ?_, fun hge => ?_⟩
 ·have hil : i < s.length := by omega
  have hg : r0[i]? = some (.int .u8 ((s[i].toNat : Nat) : Int)) := by rw [hr, List.getElem?_map, List.getElem?_eq_getElem hil]; rfl
  have hb : s[i].toNat < 256 := s[i].toNat_lt
  have hrl : r0.length = s.length := by rw [hr, List.length_map]
  refine ⟨by omega, by simp, ⟨by omega, by omega⟩, ((s[i].toNat : Nat) : Int), (by show rowI r0 (0 + (i : Int)) = _; rw [Int.zero_add]; show (match r0[i]? with | some v => oneV v | none => none) = _; rw [hg]; rfl), ⟨by show (0 : Int) ≤ _; omega, by show ((s[i].toNat : Nat) : Int) ≤ 255; omega⟩, trivial, fun x5 e5 => ⟨by rw [e5]; exact xor64_rng _ _, trivial, fun x6 e6 => ⟨by rw [e6]; exact mul64_rng _ _, by omega, ⟨by show (-9223372036854775808 : Int) ≤ _; omega, by show _ ≤ (9223372036854775807 : Int); omega⟩, by rw [e6]; exact mul64_rng _ _, ⟨i + 1, by omega, by omega, ?_⟩, by first | omega | (simp only; omega)⟩⟩⟩
  rw [e6, e5]
  show hOne _ _ = _
  rw [← List.take_append_getElem hil]
  unfold hTxt byI
  rw [List.map_append, List.map_cons, List.map_nil, hFold_snoc]
 ·obtain rfl : i = s.length := by omega
  rw [List.take_length]
  exact hQ
def hSum_pre (s : List UInt8) (m : Mem) : Prop := s.length ≤ 9223372036854775807
def hSum_post (s : List UInt8) (m : Mem) (z : Int) : Prop := z = hTxt 14695981039346656037 s
def hSum : Sp := { args := [.s], grp := [none], res := [.i .u64], rgrp := [none], fn := 170, spec := fun a0 => (hSum_pre a0, hSum_post a0) }
def hSum_VC : Prop := ∀ m : Mem, ∀ s0 : List UInt8, hSum_pre s0 m →
 (((s0.length : Nat) : Int) ≤ 9223372036854775807 ∧ ∀ (p0 : Addr) (n0 c0 : Nat) (r0 : List Value), n0 = s0.length → n0 ≤ c0 → c0 ≤ 9223372036854775807 → r0 = (s0).map (fun b => Value.int IntKind.u8 (b.toNat : Int)) → (∃ F1 : Int → Int → Prop × Nat, ((K.i64 0) ∧ (K.u64 14695981039346656037) ∧ (F1 0 14695981039346656037).1) ∧
 ∀ x2 : Int, mi ≤ x2 → x2 ≤ ma → ∀ x3 : Int, IntKind.u64.min ≤ x3 → x3 ≤ IntKind.u64.max → (F1 x2 x3).1 →
 ((x2 < (n0 : Int) →
 (0 ≤ x2 ∧ ((some p0) ≠ none ∧ ((0 ≤ (0 + x2) ∧ (0 + x2) + 1 ≤ (r0.length : Int)) ∧ (∃ x4 : Int, rowI r0 (0 + x2) = some (Value.int IntKind.u8 x4) ∧ (K.u8 x4) ∧ (arithP BinOp.xor x4 ∧ ∀ x5 : Int, x5 = arithV BinOp.xor IntKind.u64 x3 x4 → (K.u64 x5) ∧ (arithP BinOp.mul 1099511628211 ∧ ∀ x6 : Int, x6 = arithV BinOp.mul IntKind.u64 x5 1099511628211 → (K.u64 x6) ∧ ((x2 + 1) ≤ 9223372036854775807 ∧ ((mi ≤ (x2 + 1) ∧ (x2 + 1) ≤ ma) ∧ (K.u64 x6) ∧ ((F1 (x2 + 1) x6).1 ∧ (F1 (x2 + 1) x6).2 < (F1 x2 x3).2)))))))))) ∧
 ((n0 : Int) ≤ x2 →
 ((K.u64 x3) ∧ hSum_post s0 m x3)))))
theorem hSum_vc : hSum_VC := by
 intro m s hs
 have hs : s.length ≤ 9223372036854775807 := hs
 refine ⟨by omega, fun p0 n0 c0 r0 e1 _ _ e2 => txt_loop (by omega) e1 e2 (by constructor <;> decide) ⟨hFold_rng (by constructor <;> decide) _, rfl⟩⟩
theorem hSum_ok : SpOk Tryz.prog hSum :=
 con_ok (sps_of [] trivial rfl) (tab_ok _ [⟨(20, 2), [(0, 0, .i .u64)], [], [], []⟩]) 1000 hSum _ rfl rfl (Eq.mp (show hSum_VC = _ by kernel_rfl) hSum_vc)
def hNum_pre (h n : Int) (m : Mem) : Prop := True
def hNum_post (h n : Int) (m : Mem) (z : Int) : Prop := z = hNumV h n
def hNum : Sp := { args := [.i .u64, .i .i64], grp := [none, none], res := [.i .u64], rgrp := [none], fn := 169, spec := fun a0 a1 => (hNum_pre a0 a1, hNum_post a0 a1) }
def hNum_VC : Prop := ∀ m : Mem, ∀ x0 : Int, IntKind.u64.min ≤ x0 → x0 ≤ IntKind.u64.max → ∀ x1 : Int, mi ≤ x1 → x1 ≤ ma → hNum_pre x0 x1 m →
 (∀ x2 : Int, x2 = IntKind.u64.wrap x1 → IntKind.u64.min ≤ x2 → x2 ≤ IntKind.u64.max → (arithP BinOp.shr 0 ∧ ∀ x3 : Int, x3 = arithV BinOp.shr IntKind.u64 x2 0 → (K.u64 x3) ∧ (∀ x4 : Int, x4 = IntKind.u8.wrap x3 → IntKind.u8.min ≤ x4 → x4 ≤ IntKind.u8.max → (∀ x5 : Int, x5 = IntKind.u64.wrap x1 → IntKind.u64.min ≤ x5 → x5 ≤ IntKind.u64.max → (arithP BinOp.shr 8 ∧ ∀ x6 : Int, x6 = arithV BinOp.shr IntKind.u64 x5 8 → (K.u64 x6) ∧ (∀ x7 : Int, x7 = IntKind.u8.wrap x6 → IntKind.u8.min ≤ x7 → x7 ≤ IntKind.u8.max → (∀ x8 : Int, x8 = IntKind.u64.wrap x1 → IntKind.u64.min ≤ x8 → x8 ≤ IntKind.u64.max → (arithP BinOp.shr 16 ∧ ∀ x9 : Int, x9 = arithV BinOp.shr IntKind.u64 x8 16 → (K.u64 x9) ∧ (∀ x10 : Int, x10 = IntKind.u8.wrap x9 → IntKind.u8.min ≤ x10 → x10 ≤ IntKind.u8.max → (∀ x11 : Int, x11 = IntKind.u64.wrap x1 → IntKind.u64.min ≤ x11 → x11 ≤ IntKind.u64.max → (arithP BinOp.shr 24 ∧ ∀ x12 : Int, x12 = arithV BinOp.shr IntKind.u64 x11 24 → (K.u64 x12) ∧ (∀ x13 : Int, x13 = IntKind.u8.wrap x12 → IntKind.u8.min ≤ x13 → x13 ≤ IntKind.u8.max → (∀ x14 : Int, x14 = IntKind.u64.wrap x1 → IntKind.u64.min ≤ x14 → x14 ≤ IntKind.u64.max → (arithP BinOp.shr 32 ∧ ∀ x15 : Int, x15 = arithV BinOp.shr IntKind.u64 x14 32 → (K.u64 x15) ∧ (∀ x16 : Int, x16 = IntKind.u8.wrap x15 → IntKind.u8.min ≤ x16 → x16 ≤ IntKind.u8.max → (∀ x17 : Int, x17 = IntKind.u64.wrap x1 → IntKind.u64.min ≤ x17 → x17 ≤ IntKind.u64.max → (arithP BinOp.shr 40 ∧ ∀ x18 : Int, x18 = arithV BinOp.shr IntKind.u64 x17 40 → (K.u64 x18) ∧ (∀ x19 : Int, x19 = IntKind.u8.wrap x18 → IntKind.u8.min ≤ x19 → x19 ≤ IntKind.u8.max → (∀ x20 : Int, x20 = IntKind.u64.wrap x1 → IntKind.u64.min ≤ x20 → x20 ≤ IntKind.u64.max → (arithP BinOp.shr 48 ∧ ∀ x21 : Int, x21 = arithV BinOp.shr IntKind.u64 x20 48 → (K.u64 x21) ∧ (∀ x22 : Int, x22 = IntKind.u8.wrap x21 → IntKind.u8.min ≤ x22 → x22 ≤ IntKind.u8.max → (∀ x23 : Int, x23 = IntKind.u64.wrap x1 → IntKind.u64.min ≤ x23 → x23 ≤ IntKind.u64.max → (arithP BinOp.shr 56 ∧ ∀ x24 : Int, x24 = arithV BinOp.shr IntKind.u64 x23 56 → (K.u64 x24) ∧ (∀ x25 : Int, x25 = IntKind.u8.wrap x24 → IntKind.u8.min ≤ x25 → x25 ≤ IntKind.u8.max → (∃ ns : List Int, [(Value.int IntKind.u8 x4), (Value.int IntKind.u8 x7), (Value.int IntKind.u8 x10), (Value.int IntKind.u8 x13), (Value.int IntKind.u8 x16), (Value.int IntKind.u8 x19), (Value.int IntKind.u8 x22), (Value.int IntKind.u8 x25)] = ns.map (Value.int IntKind.u8) ∧ ∀ s0 : List UInt8, s0 = ns.map (fun n => UInt8.ofNat n.toNat) → (((s0.length : Nat) : Int) ≤ 9223372036854775807 ∧ ∀ (p0 : Addr) (n0 c0 : Nat) (r0 : List Value), n0 = s0.length → n0 ≤ c0 → c0 ≤ 9223372036854775807 → r0 = (s0).map (fun b => Value.int IntKind.u8 (b.toNat : Int)) → (∃ F1 : Int → Int → Prop × Nat, ((K.i64 0) ∧ (K.u64 x0) ∧ (F1 0 x0).1) ∧
 ∀ x28 : Int, mi ≤ x28 → x28 ≤ ma → ∀ x29 : Int, IntKind.u64.min ≤ x29 → x29 ≤ IntKind.u64.max → (F1 x28 x29).1 →
 ((x28 < (n0 : Int) →
 (0 ≤ x28 ∧ ((some p0) ≠ none ∧ ((0 ≤ (0 + x28) ∧ (0 + x28) + 1 ≤ (r0.length : Int)) ∧ (∃ x30 : Int, rowI r0 (0 + x28) = some (Value.int IntKind.u8 x30) ∧ (K.u8 x30) ∧ (arithP BinOp.xor x30 ∧ ∀ x31 : Int, x31 = arithV BinOp.xor IntKind.u64 x29 x30 → (K.u64 x31) ∧ (arithP BinOp.mul 1099511628211 ∧ ∀ x32 : Int, x32 = arithV BinOp.mul IntKind.u64 x31 1099511628211 → (K.u64 x32) ∧ ((x28 + 1) ≤ 9223372036854775807 ∧ ((mi ≤ (x28 + 1) ∧ (x28 + 1) ≤ ma) ∧ (K.u64 x32) ∧ ((F1 (x28 + 1) x32).1 ∧ (F1 (x28 + 1) x32).2 < (F1 x28 x29).2)))))))))) ∧
 ((n0 : Int) ≤ x28 →
 ((K.u64 x29) ∧ hNum_post x0 x1 m x29))))))))))))))))))))))))))))))
theorem hNum_vc : hNum_VC := by
 intro m h h1 h2 n n1 n2 _
 have hh : u64I h := ⟨h1, h2⟩
 intro a0 e0 _ _
 refine ⟨(by show (0 : Int) ≤ 0; decide), ?_⟩; intro b0 f0; refine ⟨by rw [f0, e0]; exact shr64_rng (wrapU_rng _) 0 (by decide), ?_⟩; intro d0 g0 _ _ a1 e1 _ _
 refine ⟨(by show (0 : Int) ≤ 8; decide), ?_⟩; intro b1 f1; refine ⟨by rw [f1, e1]; exact shr64_rng (wrapU_rng _) 8 (by decide), ?_⟩; intro d1 g1 _ _ a2 e2 _ _
 refine ⟨(by show (0 : Int) ≤ 16; decide), ?_⟩; intro b2 f2; refine ⟨by rw [f2, e2]; exact shr64_rng (wrapU_rng _) 16 (by decide), ?_⟩; intro d2 g2 _ _ a3 e3 _ _
 refine ⟨(by show (0 : Int) ≤ 24; decide), ?_⟩; intro b3 f3; refine ⟨by rw [f3, e3]; exact shr64_rng (wrapU_rng _) 24 (by decide), ?_⟩; intro d3 g3 _ _ a4 e4 _ _
 refine ⟨(by show (0 : Int) ≤ 32; decide), ?_⟩; intro b4 f4; refine ⟨by rw [f4, e4]; exact shr64_rng (wrapU_rng _) 32 (by decide), ?_⟩; intro d4 g4 _ _ a5 e5 _ _
 refine ⟨(by show (0 : Int) ≤ 40; decide), ?_⟩; intro b5 f5; refine ⟨by rw [f5, e5]; exact shr64_rng (wrapU_rng _) 40 (by decide), ?_⟩; intro d5 g5 _ _ a6 e6 _ _
 refine ⟨(by show (0 : Int) ≤ 48; decide), ?_⟩; intro b6 f6; refine ⟨by rw [f6, e6]; exact shr64_rng (wrapU_rng _) 48 (by decide), ?_⟩; intro d6 g6 _ _ a7 e7 _ _
 refine ⟨(by show (0 : Int) ≤ 56; decide), ?_⟩; intro b7 f7; refine ⟨by rw [f7, e7]; exact shr64_rng (wrapU_rng _) 56 (by decide), ?_⟩; intro d7 g7 _ _
 refine ⟨nBytes n, ?_, ?_⟩
 ·rw [g0, g1, g2, g3, g4, g5, g6, g7, f0, f1, f2, f3, f4, f5, f6, f7, e0, e1, e2, e3, e4, e5, e6, e7]
  rfl
 ·intro s es
  have hl : s.length = 8 := by rw [es, List.length_map]; rfl
  refine ⟨by omega, fun p0 n0 c0 r0 q1 _ _ q2 => txt_loop (by omega) q1 q2 hh ⟨hFold_rng hh _, ?_⟩⟩
  show hTxt h s = hNumV h n
  unfold hTxt hNumV
  rw [es, byI_ofNat (nBytes_rng n)]
theorem hNum_ok : SpOk Tryz.prog hNum :=
 con_ok (sps_of [] trivial rfl) (tab_ok _ [⟨(20, 2), [(0, 0, .i .u64)], [], [], []⟩]) 1000 hNum _ rfl rfl (Eq.mp (show hNum_VC = _ by kernel_rfl) hNum_vc)
end Go.Proofs.YtjabmipkllkfbaaGreatDoor.Vc
namespace Go.Proofs.YtjabmipkllkfbaaGreatDoor.Vc
def evN (s p c : Int) : Int := if 0 < c then min (1 + (253402300799 - s) / p) c else 1 + (253402300799 - s) / p
def evB (s p c t : Int) : Int := if t ≤ s then 0 else min (evN s p c) ((t - s - 1) / p + 1)
def evV (s p c t : Int) : Prop := 0 ≤ s ∧ s ≤ 253402300799 ∧ 1 ≤ p ∧ p ≤ 68719476736 ∧ 0 ≤ c ∧ c ≤ 1000000 ∧ 0 ≤ t ∧ t ≤ 253402300799
def evIsP (s p c t : Int) : Bool := decide (evB s p c t < evN s p c ∧ s + evB s p c t * p = t)
theorem ev_num {s p c t : Int} (h : evV s p c t) : 0 ≤ (253402300799 - s) / p ∧ (253402300799 - s) / p ≤ 253402300799 ∧ 1 ≤ evN s p c ∧ evN s p c ≤ 253402300800 ∧ 0 ≤ evB s p c t ∧ evB s p c t ≤ evN s p c := by
 obtain ⟨h0, h1, h2, h3, h4, h5, h6, h7⟩ := h
 have a0 : 0 ≤ (253402300799 - s) / p := Int.ediv_nonneg (by omega) (by omega)
 have a1 : (253402300799 - s) / p ≤ 253402300799 - s := Int.ediv_le_self _ (by omega)
 have hn : 1 ≤ evN s p c ∧ evN s p c ≤ 253402300800 := by unfold evN; split <;> omega
 refine ⟨a0, by omega, hn.1, hn.2, ?_, ?_⟩
 ·unfold evB
  split
  ·omega
  ·have : 0 ≤ (t - s - 1) / p := Int.ediv_nonneg (by omega) (by omega)
   omega
 ·unfold evB; split <;> omega
theorem ev_mul {s p c t k : Int} (h : evV s p c t) (h0 : 0 ≤ k) (hk : k < evN s p c) : 0 ≤ k * p ∧ k * p ≤ 253402300799 - s := by
 obtain ⟨g0, g1, g2, g3, g4, g5, g6, g7⟩ := h
 have h1 : k ≤ (253402300799 - s) / p := by unfold evN at hk; split at hk <;> omega
 refine ⟨Int.mul_nonneg h0 (by omega), ?_⟩
 calc k * p ≤ (253402300799 - s) / p * p := Int.mul_le_mul_of_nonneg_right h1 (by omega)
  _ ≤ _ := Int.ediv_mul_le _ (by omega)
theorem ev_quo {x p : Int} (h : 0 ≤ x) (hx : x ≤ 253402300799) (hp : 1 ≤ p) : arithV BinOp.quo IntKind.i64 x p = x / p ∧ 0 ≤ x / p ∧ x / p ≤ 253402300799 := by
 have a0 : 0 ≤ x / p := Int.ediv_nonneg h (by omega)
 have a1 : x / p ≤ x := Int.ediv_le_self _ h
 refine ⟨?_, a0, by omega⟩
 show IntKind.i64.wrap (x.tdiv p) = x / p
 rw [Int.tdiv_eq_ediv_of_nonneg h]
 exact wrap_id (by rw [show IntKind.i64.min = -9223372036854775808 from rfl]; omega) (by rw [IntKind.max_i64]; omega)
def evIs_pre (s p c t : Int) (m : Mem) : Prop := evV s p c t
def evIs_post (s p c t : Int) (m : Mem) (r : Bool) (e : Int) : Prop := e = 0 ∧ r = evIsP s p c t
def evNx_pre (s p c t : Int) (m : Mem) : Prop := evV s p c t
def evNx_post (s p c t : Int) (m : Mem) (u : Int) (r : Bool) (e : Int) : Prop := e = 0 ∧ (if evB s p c (t + 1) < evN s p c then r = true ∧ u = s + evB s p c (t + 1) * p else r = false ∧ u = 0)
def evIs : Sp := { args := [.i .i64, .i .i64, .i .i64, .i .i64], grp := [some 3, none], res := [.b, .i .i64], rgrp := [none, none], fn := 160, spec := fun a0 a1 a2 a3 => (evIs_pre a0 a1 a2 a3, evIs_post a0 a1 a2 a3) }
def evIs_VC : Prop := ∀ m : Mem, ∀ x0 : Int, mi ≤ x0 → x0 ≤ ma → ∀ x1 : Int, mi ≤ x1 → x1 ≤ ma → ∀ x2 : Int, mi ≤ x2 → x2 ≤ ma → ∀ x3 : Int, mi ≤ x3 → x3 ≤ ma → evIs_pre x0 x1 x2 x3 m →
 ((x0 < 0 →
 ((K.i64 16) ∧ evIs_post x0 x1 x2 x3 m false 16)) ∧
 (0 ≤ x0 →
 ((253402300799 < x0 →
 ((K.i64 16) ∧ evIs_post x0 x1 x2 x3 m false 16)) ∧
 (x0 ≤ 253402300799 →
 ((x1 < 1 →
 ((K.i64 16) ∧ evIs_post x0 x1 x2 x3 m false 16)) ∧
 (1 ≤ x1 →
 ((68719476736 < x1 →
 ((K.i64 16) ∧ evIs_post x0 x1 x2 x3 m false 16)) ∧
 (x1 ≤ 68719476736 →
 ((x2 < 0 →
 ((K.i64 16) ∧ evIs_post x0 x1 x2 x3 m false 16)) ∧
 (0 ≤ x2 →
 ((1000000 < x2 →
 ((K.i64 16) ∧ evIs_post x0 x1 x2 x3 m false 16)) ∧
 (x2 ≤ 1000000 →
 ((x3 < 0 →
 ((K.i64 14) ∧ evIs_post x0 x1 x2 x3 m false 14)) ∧
 (0 ≤ x3 →
 ((253402300799 < x3 →
 ((K.i64 14) ∧ evIs_post x0 x1 x2 x3 m false 14)) ∧
 (x3 ≤ 253402300799 →
 (arithP BinOp.quo x1 ∧ ∀ x4 : Int, x4 = arithV BinOp.quo IntKind.i64 (253402300799 - x0) x1 → (K.i64 x4) ∧ ((1 + x4) ≤ 9223372036854775807 ∧ ((0 < x2 →
 (∀ x5 : Int, x5 = (bif false then max (1 + x4) x2 else min (1 + x4) x2) → (K.i64 x5) ∧ ((x3 ≤ x0 →
 ((x5 ≤ 0 →
 ((K.i64 0) ∧ evIs_post x0 x1 x2 x3 m false 0)) ∧
 (0 < x5 →
 ((K.i64 0) ∧ evIs_post x0 x1 x2 x3 m (decide ((x0 + (0 * x1)) = x3)) 0)))) ∧
 (x0 < x3 →
 (arithP BinOp.quo x1 ∧ ∀ x6 : Int, x6 = arithV BinOp.quo IntKind.i64 ((x3 - x0) - 1) x1 → (K.i64 x6) ∧ ((x6 + 1) ≤ 9223372036854775807 ∧ (∀ x7 : Int, x7 = (bif false then max x5 (x6 + 1) else min x5 (x6 + 1)) → (K.i64 x7) ∧ ((x7 < 0 →
 ((K.i64 0) ∧ evIs_post x0 x1 x2 x3 m false 0)) ∧
 (0 ≤ x7 →
 ((x5 ≤ x7 →
 ((K.i64 0) ∧ evIs_post x0 x1 x2 x3 m false 0)) ∧
 (x7 < x5 →
 ((x7 * x1) ≤ 9223372036854775807 ∧ ((x0 + (x7 * x1)) ≤ 9223372036854775807 ∧ ((K.i64 0) ∧ evIs_post x0 x1 x2 x3 m (decide ((x0 + (x7 * x1)) = x3)) 0)))))))))))))) ∧
 (x2 ≤ 0 →
 ((x3 ≤ x0 →
 (((1 + x4) ≤ 0 →
 ((K.i64 0) ∧ evIs_post x0 x1 x2 x3 m false 0)) ∧
 (0 < (1 + x4) →
 ((K.i64 0) ∧ evIs_post x0 x1 x2 x3 m (decide ((x0 + (0 * x1)) = x3)) 0)))) ∧
 (x0 < x3 →
 (arithP BinOp.quo x1 ∧ ∀ x5 : Int, x5 = arithV BinOp.quo IntKind.i64 ((x3 - x0) - 1) x1 → (K.i64 x5) ∧ ((x5 + 1) ≤ 9223372036854775807 ∧ (∀ x6 : Int, x6 = (bif false then max (1 + x4) (x5 + 1) else min (1 + x4) (x5 + 1)) → (K.i64 x6) ∧ ((x6 < 0 →
 ((K.i64 0) ∧ evIs_post x0 x1 x2 x3 m false 0)) ∧
 (0 ≤ x6 →
 (((1 + x4) ≤ x6 →
 ((K.i64 0) ∧ evIs_post x0 x1 x2 x3 m false 0)) ∧
 (x6 < (1 + x4) →
 ((x6 * x1) ≤ 9223372036854775807 ∧ ((x0 + (x6 * x1)) ≤ 9223372036854775807 ∧ ((K.i64 0) ∧ evIs_post x0 x1 x2 x3 m (decide ((x0 + (x6 * x1)) = x3)) 0))))))))))))))))))))))))))))))))
theorem evIs_vc : evIs_VC := by
 intro m x0 _ _ x1 _ _ x2 _ _ x3 _ _ hv
 have hv : evV x0 x1 x2 x3 := hv
 obtain ⟨n1, n2, n3, n4, n5, n6⟩ := ev_num hv
 have hm : ∀ k, 0 ≤ k → k < evN x0 x1 x2 → 0 ≤ k * x1 ∧ k * x1 ≤ 253402300799 - x0 := fun k => ev_mul hv
 obtain ⟨g0, g1, g2, g3, g4, g5, g6, g7⟩ := hv
 have b2 : IntKind.i64.min = -9223372036854775808 := rfl
 have b3 : IntKind.i64.max = 9223372036854775807 := rfl
 have k64 : ∀ z : Int, -9223372036854775808 ≤ z → z ≤ 9223372036854775807 → K.i64 z := fun z h1 h2 => ⟨(by rw [b2]; omega : IntKind.i64.min ≤ _), (by rw [b3]; omega : _ ≤ IntKind.i64.max)⟩
 have kk := k64 0 (by omega) (by omega)
 iterate 8 refine ⟨fun h => by omega, fun _ => ?_⟩
 obtain ⟨q1, q2, q3⟩ := ev_quo (x := 253402300799 - x0) (p := x1) (by omega) (by omega) g2
 refine ⟨(by show x1 ≠ 0; omega), fun x4 hx4 => ?_⟩
 rw [q1] at hx4
 subst hx4
 have one : ∀ b : Bool, b = evIsP x0 x1 x2 x3 → (K.i64 0 ∧ evIs_post x0 x1 x2 x3 m b 0) := fun b hb => ⟨kk, rfl, hb⟩
 have low : x3 ≤ x0 → evB x0 x1 x2 x3 = 0 := fun h => by unfold evB; rw [if_pos h]
 have high : x0 < x3 → evB x0 x1 x2 x3 = min (evN x0 x1 x2) ((x3 - x0 - 1) / x1 + 1) := fun h => by unfold evB; rw [if_neg (by omega)]
 have fin : ∀ n : Int, n = evN x0 x1 x2 → ((x3 ≤ x0 →
   ((n ≤ 0 → (K.i64 0 ∧ evIs_post x0 x1 x2 x3 m false 0)) ∧ (0 < n → (K.i64 0 ∧ evIs_post x0 x1 x2 x3 m (decide ((x0 + (0 * x1)) = x3)) 0)))) ∧
   (x0 < x3 → (arithP BinOp.quo x1 ∧ ∀ x6 : Int, x6 = arithV BinOp.quo IntKind.i64 ((x3 - x0) - 1) x1 → (K.i64 x6) ∧ ((x6 + 1) ≤ 9223372036854775807 ∧ (∀ x7 : Int, x7 = (bif false then max n (x6 + 1) else min n (x6 + 1)) → (K.i64 x7) ∧ ((x7 < 0 → (K.i64 0 ∧ evIs_post x0 x1 x2 x3 m false 0)) ∧
   (0 ≤ x7 → ((n ≤ x7 → (K.i64 0 ∧ evIs_post x0 x1 x2 x3 m false 0)) ∧ (x7 < n → ((x7 * x1) ≤ 9223372036854775807 ∧ ((x0 + (x7 * x1)) ≤ 9223372036854775807 ∧ (K.i64 0 ∧ evIs_post x0 x1 x2 x3 m (decide ((x0 + (x7 * x1)) = x3)) 0)))))))))))) := by
  intro n hn
  refine ⟨fun h => ⟨fun h' => by omega, fun _ => one _ ?_⟩, fun h => ?_⟩
  ·unfold evIsP; rw [low h]; simp only [Int.zero_mul, Int.add_zero, decide_eq_decide]; omega
  ·obtain ⟨r1, r2, r3⟩ := ev_quo (x := x3 - x0 - 1) (p := x1) (by omega) (by omega) g2
   refine ⟨(by show x1 ≠ 0; omega), fun x6 hx6 => ?_⟩
   rw [r1] at hx6
   subst hx6
   refine ⟨k64 _ (by omega) (by omega), by omega, fun x7 hx7 => ?_⟩
   have h7 : x7 = evB x0 x1 x2 x3 := by rw [high h, ← hn]; exact hx7
   refine ⟨k64 _ (by omega) (by omega), fun h' => by omega, fun _ => ⟨fun h' => one _ ?_, fun h' => ?_⟩⟩
   ·unfold evIsP; rw [← h7]; symm; simp only [decide_eq_false_iff_not]; omega
   ·obtain ⟨m1, m2⟩ := hm x7 (by omega) (by omega)
    refine ⟨by omega, by omega, one _ ?_⟩
    unfold evIsP
    rw [← h7]
    simp only [decide_eq_decide]
    omega
 refine ⟨k64 _ (by omega) (by omega), by omega, fun h => ?_, fun h => ?_⟩
 ·intro x5 hx5
  have h5 : x5 = evN x0 x1 x2 := by unfold evN; rw [if_pos h]; exact hx5
  exact ⟨k64 _ (by omega) (by omega), fin x5 h5⟩
 ·exact fin _ (by unfold evN; rw [if_neg (by omega)])
theorem evIs_ok : SpOk Tryz.prog evIs :=
 con_ok (sps_of [] trivial rfl) (tab_ok _ []) 1000 evIs _ rfl rfl (Eq.mp (show evIs_VC = _ by kernel_rfl) evIs_vc)
def evNx : Sp := { args := [.i .i64, .i .i64, .i .i64, .i .i64], grp := [some 3, none], res := [.i .i64, .b, .i .i64], rgrp := [none, none, none], fn := 162, spec := fun a0 a1 a2 a3 => (evNx_pre a0 a1 a2 a3, evNx_post a0 a1 a2 a3) }
def evNx_VC : Prop := ∀ m : Mem, ∀ x0 : Int, mi ≤ x0 → x0 ≤ ma → ∀ x1 : Int, mi ≤ x1 → x1 ≤ ma → ∀ x2 : Int, mi ≤ x2 → x2 ≤ ma → ∀ x3 : Int, mi ≤ x3 → x3 ≤ ma → evNx_pre x0 x1 x2 x3 m →
 ((x0 < 0 →
 ((K.i64 0) ∧ (K.i64 16) ∧ evNx_post x0 x1 x2 x3 m 0 false 16)) ∧
 (0 ≤ x0 →
 ((253402300799 < x0 →
 ((K.i64 0) ∧ (K.i64 16) ∧ evNx_post x0 x1 x2 x3 m 0 false 16)) ∧
 (x0 ≤ 253402300799 →
 ((x1 < 1 →
 ((K.i64 0) ∧ (K.i64 16) ∧ evNx_post x0 x1 x2 x3 m 0 false 16)) ∧
 (1 ≤ x1 →
 ((68719476736 < x1 →
 ((K.i64 0) ∧ (K.i64 16) ∧ evNx_post x0 x1 x2 x3 m 0 false 16)) ∧
 (x1 ≤ 68719476736 →
 ((x2 < 0 →
 ((K.i64 0) ∧ (K.i64 16) ∧ evNx_post x0 x1 x2 x3 m 0 false 16)) ∧
 (0 ≤ x2 →
 ((1000000 < x2 →
 ((K.i64 0) ∧ (K.i64 16) ∧ evNx_post x0 x1 x2 x3 m 0 false 16)) ∧
 (x2 ≤ 1000000 →
 ((x3 < 0 →
 ((K.i64 0) ∧ (K.i64 14) ∧ evNx_post x0 x1 x2 x3 m 0 false 14)) ∧
 (0 ≤ x3 →
 ((253402300799 < x3 →
 ((K.i64 0) ∧ (K.i64 14) ∧ evNx_post x0 x1 x2 x3 m 0 false 14)) ∧
 (x3 ≤ 253402300799 →
 (arithP BinOp.quo x1 ∧ ∀ x4 : Int, x4 = arithV BinOp.quo IntKind.i64 (253402300799 - x0) x1 → (K.i64 x4) ∧ ((1 + x4) ≤ 9223372036854775807 ∧ ((0 < x2 →
 (∀ x5 : Int, x5 = (bif false then max (1 + x4) x2 else min (1 + x4) x2) → (K.i64 x5) ∧ (((x3 + 1) ≤ x0 →
 ((x5 ≤ 0 →
 ((K.i64 0) ∧ (K.i64 0) ∧ evNx_post x0 x1 x2 x3 m 0 false 0)) ∧
 (0 < x5 →
 ((mi ≤ (x0 + (0 * x1)) ∧ (x0 + (0 * x1)) ≤ ma) ∧ (K.i64 0) ∧ evNx_post x0 x1 x2 x3 m (x0 + (0 * x1)) true 0)))) ∧
 (x0 < (x3 + 1) →
 (arithP BinOp.quo x1 ∧ ∀ x6 : Int, x6 = arithV BinOp.quo IntKind.i64 (((x3 + 1) - x0) - 1) x1 → (K.i64 x6) ∧ ((x6 + 1) ≤ 9223372036854775807 ∧ (∀ x7 : Int, x7 = (bif false then max x5 (x6 + 1) else min x5 (x6 + 1)) → (K.i64 x7) ∧ ((x7 < 0 →
 ((K.i64 0) ∧ (K.i64 0) ∧ evNx_post x0 x1 x2 x3 m 0 false 0)) ∧
 (0 ≤ x7 →
 ((x5 ≤ x7 →
 ((K.i64 0) ∧ (K.i64 0) ∧ evNx_post x0 x1 x2 x3 m 0 false 0)) ∧
 (x7 < x5 →
 ((x7 * x1) ≤ 9223372036854775807 ∧ ((x0 + (x7 * x1)) ≤ 9223372036854775807 ∧ ((mi ≤ (x0 + (x7 * x1)) ∧ (x0 + (x7 * x1)) ≤ ma) ∧ (K.i64 0) ∧ evNx_post x0 x1 x2 x3 m (x0 + (x7 * x1)) true 0)))))))))))))) ∧
 (x2 ≤ 0 →
 (((x3 + 1) ≤ x0 →
 (((1 + x4) ≤ 0 →
 ((K.i64 0) ∧ (K.i64 0) ∧ evNx_post x0 x1 x2 x3 m 0 false 0)) ∧
 (0 < (1 + x4) →
 ((mi ≤ (x0 + (0 * x1)) ∧ (x0 + (0 * x1)) ≤ ma) ∧ (K.i64 0) ∧ evNx_post x0 x1 x2 x3 m (x0 + (0 * x1)) true 0)))) ∧
 (x0 < (x3 + 1) →
 (arithP BinOp.quo x1 ∧ ∀ x5 : Int, x5 = arithV BinOp.quo IntKind.i64 (((x3 + 1) - x0) - 1) x1 → (K.i64 x5) ∧ ((x5 + 1) ≤ 9223372036854775807 ∧ (∀ x6 : Int, x6 = (bif false then max (1 + x4) (x5 + 1) else min (1 + x4) (x5 + 1)) → (K.i64 x6) ∧ ((x6 < 0 →
 ((K.i64 0) ∧ (K.i64 0) ∧ evNx_post x0 x1 x2 x3 m 0 false 0)) ∧
 (0 ≤ x6 →
 (((1 + x4) ≤ x6 →
 ((K.i64 0) ∧ (K.i64 0) ∧ evNx_post x0 x1 x2 x3 m 0 false 0)) ∧
 (x6 < (1 + x4) →
 ((x6 * x1) ≤ 9223372036854775807 ∧ ((x0 + (x6 * x1)) ≤ 9223372036854775807 ∧ ((mi ≤ (x0 + (x6 * x1)) ∧ (x0 + (x6 * x1)) ≤ ma) ∧ (K.i64 0) ∧ evNx_post x0 x1 x2 x3 m (x0 + (x6 * x1)) true 0))))))))))))))))))))))))))))))))
theorem evNx_vc : evNx_VC := by
 intro m x0 _ _ x1 _ _ x2 _ _ x3 _ _ hv
 have hv : evV x0 x1 x2 x3 := hv
 obtain ⟨n1, n2, n3, n4, _, _⟩ := ev_num hv
 have hm : ∀ k, 0 ≤ k → k < evN x0 x1 x2 → 0 ≤ k * x1 ∧ k * x1 ≤ 253402300799 - x0 := fun k => ev_mul hv
 obtain ⟨g0, g1, g2, g3, g4, g5, g6, g7⟩ := hv
 have b2 : IntKind.i64.min = -9223372036854775808 := rfl
 have b3 : IntKind.i64.max = 9223372036854775807 := rfl
 have k64 : ∀ z : Int, -9223372036854775808 ≤ z → z ≤ 9223372036854775807 → K.i64 z := fun z h1 h2 => ⟨(by rw [b2]; omega : IntKind.i64.min ≤ _), (by rw [b3]; omega : _ ≤ IntKind.i64.max)⟩
 have kk := k64 0 (by omega) (by omega)
 iterate 8 refine ⟨fun h => by omega, fun _ => ?_⟩
 obtain ⟨q1, q2, q3⟩ := ev_quo (x := 253402300799 - x0) (p := x1) (by omega) (by omega) g2
 refine ⟨(by show x1 ≠ 0; omega), fun x4 hx4 => ?_⟩
 rw [q1] at hx4
 subst hx4
 have no : ¬ (evB x0 x1 x2 (x3 + 1) < evN x0 x1 x2) → (K.i64 0 ∧ K.i64 0 ∧ evNx_post x0 x1 x2 x3 m 0 false 0) := fun h => ⟨kk, kk, rfl, by rw [if_neg h]; exact ⟨rfl, rfl⟩⟩
 have yes : ∀ k, k = evB x0 x1 x2 (x3 + 1) → 0 ≤ k → k < evN x0 x1 x2 → (K.i64 (x0 + k * x1) ∧ K.i64 0 ∧ evNx_post x0 x1 x2 x3 m (x0 + k * x1) true 0) := fun k hk h0 h => by
  obtain ⟨m1, m2⟩ := hm k h0 h
  exact ⟨k64 _ (by omega) (by omega), kk, rfl, by rw [← hk, if_pos h]; exact ⟨rfl, rfl⟩⟩
 have low : x3 + 1 ≤ x0 → evB x0 x1 x2 (x3 + 1) = 0 := fun h => by unfold evB; rw [if_pos h]
 have high : x0 < x3 + 1 → evB x0 x1 x2 (x3 + 1) = min (evN x0 x1 x2) ((x3 + 1 - x0 - 1) / x1 + 1) := fun h => by unfold evB; rw [if_neg (by omega)]
 have fin : ∀ n : Int, n = evN x0 x1 x2 → (((x3 + 1) ≤ x0 →
   ((n ≤ 0 → (K.i64 0 ∧ K.i64 0 ∧ evNx_post x0 x1 x2 x3 m 0 false 0)) ∧ (0 < n → (K.i64 (x0 + (0 * x1)) ∧ K.i64 0 ∧ evNx_post x0 x1 x2 x3 m (x0 + (0 * x1)) true 0)))) ∧
   (x0 < (x3 + 1) → (arithP BinOp.quo x1 ∧ ∀ x6 : Int, x6 = arithV BinOp.quo IntKind.i64 (((x3 + 1) - x0) - 1) x1 → (K.i64 x6) ∧ ((x6 + 1) ≤ 9223372036854775807 ∧ (∀ x7 : Int, x7 = (bif false then max n (x6 + 1) else min n (x6 + 1)) → (K.i64 x7) ∧ ((x7 < 0 → (K.i64 0 ∧ K.i64 0 ∧ evNx_post x0 x1 x2 x3 m 0 false 0)) ∧
   (0 ≤ x7 → ((n ≤ x7 → (K.i64 0 ∧ K.i64 0 ∧ evNx_post x0 x1 x2 x3 m 0 false 0)) ∧ (x7 < n → ((x7 * x1) ≤ 9223372036854775807 ∧ ((x0 + (x7 * x1)) ≤ 9223372036854775807 ∧ (K.i64 (x0 + (x7 * x1)) ∧ K.i64 0 ∧ evNx_post x0 x1 x2 x3 m (x0 + (x7 * x1)) true 0)))))))))))) := by
  intro n hn
  refine ⟨fun h => ⟨fun h' => by omega, fun _ => yes 0 (low h).symm (by omega) (by omega)⟩, fun h => ?_⟩
  obtain ⟨r1, r2, r3⟩ := ev_quo (x := x3 + 1 - x0 - 1) (p := x1) (by omega) (by omega) g2
  refine ⟨(by show x1 ≠ 0; omega), fun x6 hx6 => ?_⟩
  rw [r1] at hx6
  subst hx6
  refine ⟨k64 _ (by omega) (by omega), by omega, fun x7 hx7 => ?_⟩
  have h7 : x7 = evB x0 x1 x2 (x3 + 1) := by rw [high h, ← hn]; exact hx7
  have h70 : x7 = min n ((x3 + 1 - x0 - 1) / x1 + 1) := hx7
  refine ⟨k64 _ (by omega) (by omega), fun h' => by omega, fun _ => ⟨fun h' => no (by omega), fun h' => ?_⟩⟩
  obtain ⟨m1, m2⟩ := hm x7 (by omega) (by omega)
  exact ⟨by omega, by omega, yes x7 h7 (by omega) (by omega)⟩
 refine ⟨k64 _ (by omega) (by omega), by omega, fun h => ?_, fun h => ?_⟩
 ·intro x5 hx5
  have h5 : x5 = evN x0 x1 x2 := by unfold evN; rw [if_pos h]; exact hx5
  exact ⟨k64 _ (by omega) (by omega), fin x5 h5⟩
 ·exact fin _ (by unfold evN; rw [if_neg (by omega)])
theorem evNx_ok : SpOk Tryz.prog evNx :=
 con_ok (sps_of [] trivial rfl) (tab_ok _ []) 1000 evNx _ rfl rfl (Eq.mp (show evNx_VC = _ by kernel_rfl) evNx_vc)
end Go.Proofs.YtjabmipkllkfbaaGreatDoor.Vc
namespace Go.Proofs.YtjabmipkllkfbaaGreatDoor.Vc
theorem evB_spec {s p c t : Int} (hp : 1 ≤ p) (k : Int) (hk : 0 ≤ k) : k < evB s p c t ↔ k < evN s p c ∧ s + k * p < t := by
 have hkp : 0 ≤ k * p := Int.mul_nonneg hk (by omega)
 unfold evB
 split
 ·omega
 ·have h : k ≤ (t - s - 1) / p ↔ k * p ≤ t - s - 1 := Int.le_ediv_iff_mul_le (by omega)
  omega
theorem evB_low {s p c t : Int} (hp : 1 ≤ p) (hn : 0 ≤ evN s p c) : 0 ≤ evB s p c t ∧ evB s p c t ≤ evN s p c := by
 unfold evB
 split
 ·omega
 ·have : 0 ≤ (t - s - 1) / p := Int.ediv_nonneg (by omega) (by omega)
  omega
theorem evB_next {s p c t : Int} (hp : 1 ≤ p) (hn : 0 ≤ evN s p c) (h : ∀ k, 0 ≤ k → k < evN s p c → s + k * p ≠ t) : evB s p c (t + 1) = evB s p c t := by
 obtain ⟨a0, a1⟩ := evB_low (t := t) (c := c) (s := s) hp hn
 obtain ⟨b0, b1⟩ := evB_low (t := t + 1) (c := c) (s := s) hp hn
 have h1 := (evB_spec (s := s) (c := c) (t := t) hp (evB s p c t) a0)
 have h2 := (evB_spec (s := s) (c := c) (t := t + 1) hp (evB s p c t) a0)
 have h3 := (evB_spec (s := s) (c := c) (t := t) hp (evB s p c (t + 1)) b0)
 have h4 := (evB_spec (s := s) (c := c) (t := t + 1) hp (evB s p c (t + 1)) b0)
 have h5 := h (evB s p c t) a0
 omega
def evF : List BE := [.eq (.var 0) (.lit 2), .eq (.var 1) (.lit 0), .eq (.var 2) (.lit 0), .eq (.var 3) (.lit 0), .eq (.var 4) (.lit 0), .eq (.var 5) (.lit 0), .eq (.var 6) (.lit 0), .not (.var 0), .not (.var 1), .eq (.var 7) (.lit 0), .eq (.var 11) (.lit 0)]
structure EvPlan (k a1 a2 a3 a4 a5 a6 : Int) (b0 b1 : Bool) (z s p c : Int) (n : Nat) : Prop where
 k : k = 2
 a1 : a1 = 0
 a2 : a2 = 0
 a3 : a3 = 0
 a4 : a4 = 0
 a5 : a5 = 0
 a6 : a6 = 0
 b0 : b0 = false
 b1 : b1 = false
 z : z = 0
 n : n = 0
def plIs_pre (k a1 a2 a3 a4 a5 a6 : Int) (b0 b1 : Bool) (z s p c : Int) (q : Option Addr) (n d : Nat) (t : Int) (m : Mem) : Prop := EvPlan k a1 a2 a3 a4 a5 a6 b0 b1 z s p c n ∧ evV s p c t
def plIs_post (k a1 a2 a3 a4 a5 a6 : Int) (b0 b1 : Bool) (z s p c : Int) (q : Option Addr) (n d : Nat) (t : Int) (m : Mem) (r : Bool) (e : Int) : Prop := e = 0 ∧ r = evIsP s p c t
def plNx_pre (k a1 a2 a3 a4 a5 a6 : Int) (b0 b1 : Bool) (z s p c : Int) (q : Option Addr) (n d : Nat) (t : Int) (m : Mem) : Prop := EvPlan k a1 a2 a3 a4 a5 a6 b0 b1 z s p c n ∧ evV s p c t
def plNx_post (k a1 a2 a3 a4 a5 a6 : Int) (b0 b1 : Bool) (z s p c : Int) (q : Option Addr) (n d : Nat) (t : Int) (m : Mem) (u : Int) (r : Bool) (e : Int) : Prop :=
 e = 0 ∧ (if evB s p c (t + 1) < evN s p c then r = true ∧ u = s + evB s p c (t + 1) * p else r = false ∧ u = 0)
def plIs : Sp := { args := [.i .i64, .i .u64, .i .u64, .i .u64, .i .u64, .i .u64, .i .u64, .b, .b, .i .i64, .i .i64, .i .i64, .i .i64, .sl, .i .i64], grp := [some 14, none], res := [.b, .i .i64], rgrp := [none, none], fn := 60, spec := fun a0 a1 a2 a3 a4 a5 a6 a7 a8 a9 a10 a11 a12 a13 a14 a15 a16 => (plIs_pre a0 a1 a2 a3 a4 a5 a6 a7 a8 a9 a10 a11 a12 a13 a14 a15 a16, plIs_post a0 a1 a2 a3 a4 a5 a6 a7 a8 a9 a10 a11 a12 a13 a14 a15 a16) }
def plIs_VC : Prop := ∀ m : Mem, ∀ x0 : Int, mi ≤ x0 → x0 ≤ ma → ∀ x1 : Int, IntKind.u64.min ≤ x1 → x1 ≤ IntKind.u64.max → ∀ x2 : Int, IntKind.u64.min ≤ x2 → x2 ≤ IntKind.u64.max → ∀ x3 : Int, IntKind.u64.min ≤ x3 → x3 ≤ IntKind.u64.max → ∀ x4 : Int, IntKind.u64.min ≤ x4 → x4 ≤ IntKind.u64.max → ∀ x5 : Int, IntKind.u64.min ≤ x5 → x5 ≤ IntKind.u64.max → ∀ x6 : Int, IntKind.u64.min ≤ x6 → x6 ≤ IntKind.u64.max → ∀ b0 : Bool, ∀ b1 : Bool, ∀ x7 : Int, mi ≤ x7 → x7 ≤ ma → ∀ x8 : Int, mi ≤ x8 → x8 ≤ ma → ∀ x9 : Int, mi ≤ x9 → x9 ≤ ma → ∀ x10 : Int, mi ≤ x10 → x10 ≤ ma → ∀ (p0 : Option Addr) (n0 c0 : Nat), n0 ≤ 9223372036854775807 → c0 ≤ 9223372036854775807 → ∀ x13 : Int, mi ≤ x13 → x13 ≤ ma → plIs_pre x0 x1 x2 x3 x4 x5 x6 b0 b1 x7 x8 x9 x10 p0 n0 c0 x13 m →
 (x0 = 2 ∧ (x1 = 0 ∧ (x2 = 0 ∧ (x3 = 0 ∧ (x4 = 0 ∧ (x5 = 0 ∧ (x6 = 0 ∧ (b0 = false ∧ (b1 = false ∧ (x7 = 0 ∧ ((n0 : Int) = 0 ∧ ((x8 < 0 →
 ((K.i64 16) ∧ plIs_post x0 x1 x2 x3 x4 x5 x6 b0 b1 x7 x8 x9 x10 p0 n0 c0 x13 m false 16)) ∧
 (0 ≤ x8 →
 ((253402300799 < x8 →
 ((K.i64 16) ∧ plIs_post x0 x1 x2 x3 x4 x5 x6 b0 b1 x7 x8 x9 x10 p0 n0 c0 x13 m false 16)) ∧
 (x8 ≤ 253402300799 →
 ((x9 < 1 →
 ((K.i64 16) ∧ plIs_post x0 x1 x2 x3 x4 x5 x6 b0 b1 x7 x8 x9 x10 p0 n0 c0 x13 m false 16)) ∧
 (1 ≤ x9 →
 ((68719476736 < x9 →
 ((K.i64 16) ∧ plIs_post x0 x1 x2 x3 x4 x5 x6 b0 b1 x7 x8 x9 x10 p0 n0 c0 x13 m false 16)) ∧
 (x9 ≤ 68719476736 →
 ((x10 < 0 →
 ((K.i64 16) ∧ plIs_post x0 x1 x2 x3 x4 x5 x6 b0 b1 x7 x8 x9 x10 p0 n0 c0 x13 m false 16)) ∧
 (0 ≤ x10 →
 ((1000000 < x10 →
 ((K.i64 16) ∧ plIs_post x0 x1 x2 x3 x4 x5 x6 b0 b1 x7 x8 x9 x10 p0 n0 c0 x13 m false 16)) ∧
 (x10 ≤ 1000000 →
 ((x13 < 0 →
 ((K.i64 14) ∧ plIs_post x0 x1 x2 x3 x4 x5 x6 b0 b1 x7 x8 x9 x10 p0 n0 c0 x13 m false 14)) ∧
 (0 ≤ x13 →
 ((253402300799 < x13 →
 ((K.i64 14) ∧ plIs_post x0 x1 x2 x3 x4 x5 x6 b0 b1 x7 x8 x9 x10 p0 n0 c0 x13 m false 14)) ∧
 (x13 ≤ 253402300799 →
 (evIs_pre x8 x9 x10 x13 m ∧ ∀ m1 : Mem, MemSub m m1 → ∀ b2 : Bool, ∀ x14 : Int, mi ≤ x14 → x14 ≤ ma → evIs_post x8 x9 x10 x13 m1 b2 x14 →
 ((b2 = true →
 ((K.i64 x14) ∧ plIs_post x0 x1 x2 x3 x4 x5 x6 b0 b1 x7 x8 x9 x10 p0 n0 c0 x13 m1 true x14)) ∧
 (b2 = false →
 ((K.i64 x14) ∧ plIs_post x0 x1 x2 x3 x4 x5 x6 b0 b1 x7 x8 x9 x10 p0 n0 c0 x13 m1 false x14)))))))))))))))))))))))))))))))
theorem plIs_vc : plIs_VC := by
 intro m x0 _ _ x1 _ _ x2 _ _ x3 _ _ x4 _ _ x5 _ _ x6 _ _ b0 b1 x7 _ _ x8 _ _ x9 _ _ x10 _ _ p0 n0 c0 _ _ x13 _ _ hpre
 obtain ⟨E, hv⟩ := hpre
 have hv' := hv
 obtain ⟨g0, g1, g2, g3, g4, g5, g6, g7⟩ := hv
 refine ⟨E.k, E.a1, E.a2, E.a3, E.a4, E.a5, E.a6, E.b0, E.b1, E.z, by rw [E.n]; rfl, ?_⟩
 iterate 8 refine ⟨fun h => by omega, fun _ => ?_⟩
 refine ⟨hv', fun m1 _ b2 x14 k1 k2 hp => ?_⟩
 obtain ⟨rfl, hr⟩ := hp
 exact ⟨fun h => ⟨⟨k1, k2⟩, rfl, h.symm.trans hr⟩, fun h => ⟨⟨k1, k2⟩, rfl, h.symm.trans hr⟩⟩
theorem plIs_pg : ∀ m, forallF plIs.args plIs.spec fun r => r.1 m → GlobsAt m [] := fun m _ _ _ _ _ _ _ _ _ _ _ _ _ _ _ _ _ _ => trivial
theorem plIs_ok : SpOk Tryz.prog plIs :=
 con_okN [] evF [] rfl (sps_of [evIs, evNx] ⟨evIs_ok, ⟨evNx_ok, trivial⟩⟩ rfl) (tab_ok _ []) 1000 plIs _ rfl rfl plIs_pg (Eq.mp (show plIs_VC = _ by kernel_rfl) plIs_vc)
def plNx : Sp := { args := [.i .i64, .i .u64, .i .u64, .i .u64, .i .u64, .i .u64, .i .u64, .b, .b, .i .i64, .i .i64, .i .i64, .i .i64, .sl, .i .i64], grp := [some 14, none], res := [.i .i64, .b, .i .i64], rgrp := [none, none, none], fn := 90, spec := fun a0 a1 a2 a3 a4 a5 a6 a7 a8 a9 a10 a11 a12 a13 a14 a15 a16 => (plNx_pre a0 a1 a2 a3 a4 a5 a6 a7 a8 a9 a10 a11 a12 a13 a14 a15 a16, plNx_post a0 a1 a2 a3 a4 a5 a6 a7 a8 a9 a10 a11 a12 a13 a14 a15 a16) }
def plNx_VC : Prop := ∀ m : Mem, ∀ x0 : Int, mi ≤ x0 → x0 ≤ ma → ∀ x1 : Int, IntKind.u64.min ≤ x1 → x1 ≤ IntKind.u64.max → ∀ x2 : Int, IntKind.u64.min ≤ x2 → x2 ≤ IntKind.u64.max → ∀ x3 : Int, IntKind.u64.min ≤ x3 → x3 ≤ IntKind.u64.max → ∀ x4 : Int, IntKind.u64.min ≤ x4 → x4 ≤ IntKind.u64.max → ∀ x5 : Int, IntKind.u64.min ≤ x5 → x5 ≤ IntKind.u64.max → ∀ x6 : Int, IntKind.u64.min ≤ x6 → x6 ≤ IntKind.u64.max → ∀ b0 : Bool, ∀ b1 : Bool, ∀ x7 : Int, mi ≤ x7 → x7 ≤ ma → ∀ x8 : Int, mi ≤ x8 → x8 ≤ ma → ∀ x9 : Int, mi ≤ x9 → x9 ≤ ma → ∀ x10 : Int, mi ≤ x10 → x10 ≤ ma → ∀ (p0 : Option Addr) (n0 c0 : Nat), n0 ≤ 9223372036854775807 → c0 ≤ 9223372036854775807 → ∀ x13 : Int, mi ≤ x13 → x13 ≤ ma → plNx_pre x0 x1 x2 x3 x4 x5 x6 b0 b1 x7 x8 x9 x10 p0 n0 c0 x13 m →
 (x0 = 2 ∧ (x1 = 0 ∧ (x2 = 0 ∧ (x3 = 0 ∧ (x4 = 0 ∧ (x5 = 0 ∧ (x6 = 0 ∧ (b0 = false ∧ (b1 = false ∧ (x7 = 0 ∧ ((n0 : Int) = 0 ∧ ((x8 < 0 →
 ((K.i64 0) ∧ (K.i64 16) ∧ plNx_post x0 x1 x2 x3 x4 x5 x6 b0 b1 x7 x8 x9 x10 p0 n0 c0 x13 m 0 false 16)) ∧
 (0 ≤ x8 →
 ((253402300799 < x8 →
 ((K.i64 0) ∧ (K.i64 16) ∧ plNx_post x0 x1 x2 x3 x4 x5 x6 b0 b1 x7 x8 x9 x10 p0 n0 c0 x13 m 0 false 16)) ∧
 (x8 ≤ 253402300799 →
 ((x9 < 1 →
 ((K.i64 0) ∧ (K.i64 16) ∧ plNx_post x0 x1 x2 x3 x4 x5 x6 b0 b1 x7 x8 x9 x10 p0 n0 c0 x13 m 0 false 16)) ∧
 (1 ≤ x9 →
 ((68719476736 < x9 →
 ((K.i64 0) ∧ (K.i64 16) ∧ plNx_post x0 x1 x2 x3 x4 x5 x6 b0 b1 x7 x8 x9 x10 p0 n0 c0 x13 m 0 false 16)) ∧
 (x9 ≤ 68719476736 →
 ((x10 < 0 →
 ((K.i64 0) ∧ (K.i64 16) ∧ plNx_post x0 x1 x2 x3 x4 x5 x6 b0 b1 x7 x8 x9 x10 p0 n0 c0 x13 m 0 false 16)) ∧
 (0 ≤ x10 →
 ((1000000 < x10 →
 ((K.i64 0) ∧ (K.i64 16) ∧ plNx_post x0 x1 x2 x3 x4 x5 x6 b0 b1 x7 x8 x9 x10 p0 n0 c0 x13 m 0 false 16)) ∧
 (x10 ≤ 1000000 →
 ((x13 < 0 →
 ((K.i64 0) ∧ (K.i64 14) ∧ plNx_post x0 x1 x2 x3 x4 x5 x6 b0 b1 x7 x8 x9 x10 p0 n0 c0 x13 m 0 false 14)) ∧
 (0 ≤ x13 →
 ((253402300799 < x13 →
 ((K.i64 0) ∧ (K.i64 14) ∧ plNx_post x0 x1 x2 x3 x4 x5 x6 b0 b1 x7 x8 x9 x10 p0 n0 c0 x13 m 0 false 14)) ∧
 (x13 ≤ 253402300799 →
 (((x13 + 1) ≤ 253402300799 →
 (evIs_pre x8 x9 x10 (x13 + 1) m ∧ ∀ m1 : Mem, MemSub m m1 → ∀ b2 : Bool, ∀ x14 : Int, mi ≤ x14 → x14 ≤ ma → evIs_post x8 x9 x10 (x13 + 1) m1 b2 x14 →
 ((b2 = false →
 (evNx_pre x8 x9 x10 (x13 + 1) m1 ∧ ∀ m2 : Mem, MemSub m1 m2 → ∀ x15 : Int, mi ≤ x15 → x15 ≤ ma → ∀ b3 : Bool, ∀ x16 : Int, mi ≤ x16 → x16 ≤ ma → evNx_post x8 x9 x10 (x13 + 1) m2 x15 b3 x16 →
 ((b3 = false →
 ((K.i64 0) ∧ (K.i64 0) ∧ plNx_post x0 x1 x2 x3 x4 x5 x6 b0 b1 x7 x8 x9 x10 p0 n0 c0 x13 m2 0 false 0)) ∧
 (b3 = true →
 ((0 ≤ x15 →
 ((253402300799 < x15 →
 ((K.i64 0) ∧ (K.i64 0) ∧ plNx_post x0 x1 x2 x3 x4 x5 x6 b0 b1 x7 x8 x9 x10 p0 n0 c0 x13 m2 0 false 0)) ∧
 (x15 ≤ 253402300799 →
 ((K.i64 x15) ∧ (K.i64 0) ∧ plNx_post x0 x1 x2 x3 x4 x5 x6 b0 b1 x7 x8 x9 x10 p0 n0 c0 x13 m2 x15 true 0)))) ∧
 (x15 < 0 →
 ((K.i64 0) ∧ (K.i64 0) ∧ plNx_post x0 x1 x2 x3 x4 x5 x6 b0 b1 x7 x8 x9 x10 p0 n0 c0 x13 m2 0 false 0))))))) ∧
 (b2 = true →
 ((mi ≤ (x13 + 1) ∧ (x13 + 1) ≤ ma) ∧ (K.i64 0) ∧ plNx_post x0 x1 x2 x3 x4 x5 x6 b0 b1 x7 x8 x9 x10 p0 n0 c0 x13 m1 (x13 + 1) true 0))))) ∧
 (253402300799 < (x13 + 1) →
 ((K.i64 0) ∧ (K.i64 0) ∧ plNx_post x0 x1 x2 x3 x4 x5 x6 b0 b1 x7 x8 x9 x10 p0 n0 c0 x13 m 0 false 0))))))))))))))))))))))))))))))
theorem plNx_vc : plNx_VC := by
 intro m x0 _ _ x1 _ _ x2 _ _ x3 _ _ x4 _ _ x5 _ _ x6 _ _ b0 b1 x7 _ _ x8 _ _ x9 _ _ x10 _ _ p0 n0 c0 _ _ x13 k1 k2 hpre
 obtain ⟨E, hv⟩ := hpre
 obtain ⟨n1, n2, n3, n4, _, _⟩ := ev_num hv
 have hm : ∀ k, 0 ≤ k → k < evN x8 x9 x10 → 0 ≤ k * x9 ∧ k * x9 ≤ 253402300799 - x8 := fun k => ev_mul hv
 obtain ⟨g0, g1, g2, g3, g4, g5, g6, g7⟩ := hv
 have kk : K.i64 0 := ⟨by decide, by decide⟩
 have b2 : IntKind.i64.min = -9223372036854775808 := rfl
 have b3 : IntKind.i64.max = 9223372036854775807 := rfl
 have k64 : ∀ v : Int, -9223372036854775808 ≤ v → v ≤ 9223372036854775807 → K.i64 v := fun v h1 h2 => ⟨(by rw [b2]; omega : IntKind.i64.min ≤ _), (by rw [b3]; omega : _ ≤ IntKind.i64.max)⟩
 have hl := evB_low (s := x8) (c := x10) (t := x13 + 1) g2 (by omega)
 have hsp := evB_spec (s := x8) (c := x10) (t := x13 + 1) g2
 refine ⟨E.k, E.a1, E.a2, E.a3, E.a4, E.a5, E.a6, E.b0, E.b1, E.z, by rw [E.n]; rfl, ?_⟩
 iterate 8 refine ⟨fun h => by omega, fun _ => ?_⟩
 refine ⟨fun hle => ⟨⟨g0, g1, g2, g3, g4, g5, by omega, hle⟩, fun m1 _ b2' x14 q1 q2 hp => ?_⟩, fun hgt => ⟨kk, kk, rfl, ?_⟩⟩
 ·obtain ⟨rfl, hr⟩ := hp
  refine ⟨fun h => ⟨⟨g0, g1, g2, g3, g4, g5, by omega, hle⟩, fun m2 _ x15 r1 r2 b3' x16 r3 r4 hq => ?_⟩, fun h => ⟨k64 _ (by omega) (by omega), kk, rfl, ?_⟩⟩
  ·obtain ⟨rfl, hq⟩ := hq
   rw [h] at hr
   have hne : evB x8 x9 x10 (x13 + 1 + 1) = evB x8 x9 x10 (x13 + 1) := by
    refine evB_next g2 (by omega) (fun k h0 hk e => ?_)
    have h1 : ¬ k < evB x8 x9 x10 (x13 + 1) := fun h' => by have := (hsp k h0).1 h'; omega
    have h2 : ¬ evB x8 x9 x10 (x13 + 1) < k := fun h' => by
     have := (hsp (evB x8 x9 x10 (x13 + 1)) hl.1)
     have h3 : (evB x8 x9 x10 (x13 + 1)) * x9 + x9 ≤ k * x9 := by
      have := Int.mul_le_mul_of_nonneg_right (show evB x8 x9 x10 (x13 + 1) + 1 ≤ k by omega) (show 0 ≤ x9 by omega)
      rw [Int.add_mul, Int.one_mul] at this
      exact this
     omega
    have h3 : k = evB x8 x9 x10 (x13 + 1) := by omega
    unfold evIsP at hr
    rw [← h3] at hr
    have := decide_eq_false_iff_not.1 hr.symm
    exact this ⟨hk, e⟩
   rw [hne] at hq
   split at hq
   ·rename_i hlt
    obtain ⟨rfl, rfl⟩ := hq
    obtain ⟨m1', m2'⟩ := hm _ hl.1 hlt
    refine ⟨(fun h => by cases h), fun _ => ⟨fun _ => ⟨fun h => by omega, fun _ => ⟨⟨r1, r2⟩, kk, rfl, ?_⟩⟩, fun h => by omega⟩⟩
    rw [if_pos hlt]; exact ⟨rfl, rfl⟩
   ·rename_i hlt
    obtain ⟨rfl, rfl⟩ := hq
    refine ⟨fun _ => ⟨kk, kk, rfl, ?_⟩, fun h => by cases h⟩
    rw [if_neg hlt]; exact ⟨rfl, rfl⟩
  ·rw [h] at hr
   unfold evIsP at hr
   obtain ⟨h1, h2⟩ := of_decide_eq_true hr.symm
   rw [if_pos h1]
   exact ⟨rfl, h2.symm⟩
 ·rw [if_neg]
  ·exact ⟨rfl, rfl⟩
  ·intro h
   obtain ⟨m1', m2'⟩ := hm _ hl.1 h
   have := (hsp _ hl.1).2 ⟨h, by omega⟩
   omega
theorem plNx_pg : ∀ m, forallF plNx.args plNx.spec fun r => r.1 m → GlobsAt m [] := fun m _ _ _ _ _ _ _ _ _ _ _ _ _ _ _ _ _ _ => trivial
theorem plNx_ok : SpOk Tryz.prog plNx :=
 con_okN [] evF [] rfl (sps_of [evIs, evNx] ⟨evIs_ok, ⟨evNx_ok, trivial⟩⟩ rfl) (tab_ok _ []) 1000 plNx _ rfl rfl plNx_pg (Eq.mp (show plNx_VC = _ by kernel_rfl) plNx_vc)
end Go.Proofs.YtjabmipkllkfbaaGreatDoor.Vc
namespace Go.Proofs.YtjabmipkllkfbaaGreatDoor.Vc
def z2F : List BE := [.eq (.var 1) (.lit 0)]
def hSpl_pre (s : List UInt8) (seed len : Int) (m : Mem) : Prop := Globs m glMx ∧ len = 0 ∧ nameB s = true
def hSpl_post (s : List UInt8) (seed len : Int) (m : Mem) (z e : Int) : Prop := z = 0 ∧ e = 0
def hSpl : Sp := { args := [.s, .i .u64, .i .i64], grp := [none, none, none], res := [.i .i64, .i .i64], rgrp := [none, none], fn := 63, spec := fun a0 a1 a2 => (hSpl_pre a0 a1 a2, hSpl_post a0 a1 a2) }
def hSpl_VC : Prop := ∀ m : Mem, ∀ s0 : List UInt8, ∀ x0 : Int, IntKind.u64.min ≤ x0 → x0 ≤ IntKind.u64.max → ∀ x1 : Int, mi ≤ x1 → x1 ≤ ma → hSpl_pre s0 x0 x1 m →
 (x1 = 0 ∧ (lNam_pre s0 m ∧ ∀ m1 : Mem, MemSub m m1 → ∀ b0 : Bool, lNam_post s0 m1 b0 →
 ((b0 = false →
 ((K.i64 0) ∧ (K.i64 15) ∧ hSpl_post s0 x0 x1 m1 0 15)) ∧
 (b0 = true →
 (∀ x2 : Int, x2 = IntKind.i64.wrap x0 → mi ≤ x2 → x2 ≤ ma → (hSum_pre s0 m1 ∧ ∀ m2 : Mem, MemSub m1 m2 → ∀ x3 : Int, IntKind.u64.min ≤ x3 → x3 ≤ IntKind.u64.max → hSum_post s0 m2 x3 →
 (hNum_pre x3 x2 m2 ∧ ∀ m3 : Mem, MemSub m2 m3 → ∀ x4 : Int, IntKind.u64.min ≤ x4 → x4 ≤ IntKind.u64.max → hNum_post x3 x2 m3 x4 →
 (mMix_pre x4 m3 ∧ ∀ m4 : Mem, MemSub m3 m4 → ∀ x5 : Int, IntKind.u64.min ≤ x5 → x5 ≤ IntKind.u64.max → mMix_post x4 m4 x5 →
 (mBel_pre x5 1 m4 ∧ ∀ m5 : Mem, MemSub m4 m5 → ∀ x6 : Int, IntKind.u64.min ≤ x6 → x6 ≤ IntKind.u64.max → ∀ x7 : Int, mi ≤ x7 → x7 ≤ ma → mBel_post x5 1 m5 x6 x7 →
 (∀ x8 : Int, x8 = IntKind.i64.wrap x6 → mi ≤ x8 → x8 ≤ ma → ((K.i64 x8) ∧ (K.i64 0) ∧ hSpl_post s0 x0 x1 m5 x8 0)))))))))))
theorem hSpl_vc : hSpl_VC := by
 intro m s x0 _ _ x1 _ _ hpre
 obtain ⟨hg, h0, hs⟩ := hpre
 have kk : K.i64 0 := ⟨by decide, by decide⟩
 have hl : s.length ≤ 9223372036854775807 := by
  have := hs
  unfold nameB at this
  simp only [Bool.and_eq_true, decide_eq_true_eq] at this
  omega
 refine ⟨h0, hl, fun m1 k1 b0 hb => ?_⟩
 have hb : b0 = nameB s := hb
 refine ⟨(fun h => by rw [hb, hs] at h; cases h), fun _ x2 hx2 _ _ => ⟨hl, fun m2 k2 x3 _ _ _ => ⟨trivial, fun m3 k3 x4 _ _ _ => ⟨((hg.sub k1).sub k2).sub k3, fun m4 k4 x5 h51 h52 _ => ⟨trivial, fun m5 k5 x6 _ _ x7 _ _ hq x8 hx8 _ _ => ?_⟩⟩⟩⟩⟩
 have hz : x6 = 0 := by
  have := (hq.2 (by decide)).1
  rw [this]
  unfold belowH
  rw [Int.mul_one]
  exact Int.ediv_eq_zero_of_lt h51 (by have : x5 ≤ 18446744073709551615 := h52; omega)
 have : x8 = 0 := by rw [hx8, hz]; rfl
 exact ⟨by rw [this]; exact kk, kk, this, rfl⟩
theorem hSpl_pg : ∀ m, forallF hSpl.args hSpl.spec fun r => r.1 m → GlobsAt m glMx := fun m s x0 x1 h => h.1.h
theorem hSpl_ok : SpOk Tryz.prog hSpl :=
 con_okN glMx z2F [] rfl (sps_of [hSum, hNum, mMix, mBel, lNam] ⟨hSum_ok, ⟨hNum_ok, ⟨mMix_ok, ⟨mBel_ok, ⟨lNam_ok, trivial⟩⟩⟩⟩⟩ rfl) (tab_ok _ []) 1000 hSpl _ rfl rfl hSpl_pg (Eq.mp (show hSpl_VC = _ by kernel_rfl) hSpl_vc)
end Go.Proofs.YtjabmipkllkfbaaGreatDoor.Vc
