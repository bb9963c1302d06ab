/-
  Contracts: events; Contracts, by their trees; Contracts, by their trees.
-/
import Derived.Test.YtjabmipkllkfbaaGreatDoorYF
import Derived.Test.YtjabmipkllkfbaaGreatDoorYT
import Derived.Test.YtjabmipkllkfbaaGreatDoorYG
set_option linter.unusedVariables false
set_option linter.unusedSimpArgs false
namespace Go.Proofs.YtjabmipkllkfbaaGreatDoor.Vc
abbrev mi : Int := IntKind.i64.min
abbrev ma : Int := IntKind.i64.max
abbrev vI (z : Int) : Value := Value.int IntKind.i64 z
def K.i64 (z : Int) : Prop := IntKind.i64.min ≤ z ∧ z ≤ IntKind.i64.max
def K.u64 (z : Int) : Prop := IntKind.u64.min ≤ z ∧ z ≤ IntKind.u64.max
def K.u8 (z : Int) : Prop := IntKind.u8.min ≤ z ∧ z ≤ IntKind.u8.max
def in64_pre (n lo hi : Int) (m : Mem) : Prop := True
def in64_post (n lo hi : Int) (m : Mem) (r : Bool) : Prop := r = (decide (lo ≤ n) && decide (n ≤ hi))
def in64 : Sp := { args := [.i .i64, .i .i64, .i .i64], grp := [none, none, none], res := [.b], rgrp := [none], fn := 115, spec := fun a0 a1 a2 => (in64_pre a0 a1 a2, in64_post a0 a1 a2) }
def in64_VC : Prop := ∀ m : Mem, ∀ x0 : Int, mi ≤ x0 → x0 ≤ ma → ∀ x1 : Int, mi ≤ x1 → x1 ≤ ma → ∀ x2 : Int, mi ≤ x2 → x2 ≤ ma → in64_pre x0 x1 x2 m →
 ((x1 ≤ x0 →
 (in64_post x0 x1 x2 m (decide (x0 ≤ x2)))) ∧
 (x0 < x1 →
 (in64_post x0 x1 x2 m false)))
theorem in64_vc : in64_VC := by
 intro m x0 _ _ x1 _ _ x2 _ _ _
 simp only [in64_post]
 exact ⟨fun h => by simp [h], fun h => by simp; omega⟩
theorem in64_ok : SpOk Tryz.prog in64 :=
 con_ok (sps_of [] trivial rfl) (tab_ok _ []) 1000 in64 _ rfl rfl (Eq.mp (show in64_VC = _ by kernel_rfl) in64_vc)
def evin_pre (u : Bool) (n lo hi : Int) (m : Mem) : Prop := True
def evin_post (u : Bool) (n lo hi : Int) (m : Mem) (r : Bool) : Prop := r = As.inU u n lo hi
def evin : Sp := { args := [.b, .i .i64, .i .i64, .i .i64], grp := [none, none, none, none], res := [.b], rgrp := [none], fn := 102, spec := fun a0 a1 a2 a3 => (evin_pre a0 a1 a2 a3, evin_post a0 a1 a2 a3) }
def evin_VC : Prop := ∀ m : Mem, ∀ b0 : Bool, ∀ x0 : Int, mi ≤ x0 → x0 ≤ ma → ∀ x1 : Int, mi ≤ x1 → x1 ≤ ma → ∀ x2 : Int, mi ≤ x2 → x2 ≤ ma → evin_pre b0 x0 x1 x2 m →
 ((b0 = false →
 (evin_post b0 x0 x1 x2 m (decide (x0 = 0)))) ∧
 (b0 = true →
 ((x1 ≤ x0 →
 (evin_post b0 x0 x1 x2 m (decide (x0 ≤ x2)))) ∧
 (x0 < x1 →
 (evin_post b0 x0 x1 x2 m false)))))
theorem evin_vc : evin_VC := by
 intro m b x0 _ _ x1 _ _ x2 _ _ _
 simp only [evin_post, As.inU]
 refine ⟨fun h => by simp [h], fun h => ⟨fun h' => by simp [h, h'], fun h' => by simp [h]; omega⟩⟩
theorem evin_ok : SpOk Tryz.prog evin :=
 con_ok (sps_of [] trivial rfl) (tab_ok _ []) 1000 evin _ rfl rfl (Eq.mp (show evin_VC = _ by kernel_rfl) evin_vc)
def evvalid_pre (t : Int) (m : Mem) : Prop := True
def evvalid_post (t : Int) (m : Mem) (r : Bool) : Prop := r = As.timeB t
def evvalid : Sp := { args := [.i .i64], grp := [none], res := [.b], rgrp := [none], fn := 101, spec := fun a0 => (evvalid_pre a0, evvalid_post a0) }
def evvalid_VC : Prop := ∀ m : Mem, ∀ x0 : Int, mi ≤ x0 → x0 ≤ ma → evvalid_pre x0 m →
 ((0 ≤ x0 →
 (evvalid_post x0 m (decide (x0 ≤ 253402300799)))) ∧
 (x0 < 0 →
 (evvalid_post x0 m false)))
theorem evvalid_vc : evvalid_VC := by
 intro m x0 _ _ _
 simp only [evvalid_post, As.timeB]
 exact ⟨fun h => by simp [h], fun h => by simp; omega⟩
theorem evvalid_ok : SpOk Tryz.prog evvalid :=
 con_ok (sps_of [] trivial rfl) (tab_ok _ []) 1000 evvalid _ rfl rfl (Eq.mp (show evvalid_VC = _ by kernel_rfl) evvalid_vc)
def evCheck_pre (k a j d t r w n : Int) (m : Mem) : Prop := True
def evCheck_post (k a j d t r w n : Int) (m : Mem) (z : Int) : Prop := z = As.evP ⟨k, a, j, d, t, r, w, n⟩
def evCheck : Sp := { args := [.i .i64, .i .i64, .i .i64, .i .i64, .i .i64, .i .i64, .i .i64, .i .i64], grp := [some 8], res := [.i .i64], rgrp := [none], fn := 72, spec := fun a0 a1 a2 a3 a4 a5 a6 a7 => (evCheck_pre a0 a1 a2 a3 a4 a5 a6 a7, evCheck_post a0 a1 a2 a3 a4 a5 a6 a7) }
def evCheck_VC : Prop := ∀ m : Mem, ∀ x0 : Int, mi ≤ x0 → x0 ≤ ma → ∀ x1 : Int, mi ≤ x1 → x1 ≤ ma → ∀ x2 : Int, mi ≤ x2 → x2 ≤ ma → ∀ x3 : Int, mi ≤ x3 → x3 ≤ ma → ∀ x4 : Int, mi ≤ x4 → x4 ≤ ma → ∀ x5 : Int, mi ≤ x5 → x5 ≤ ma → ∀ x6 : Int, mi ≤ x6 → x6 ≤ ma → ∀ x7 : Int, mi ≤ x7 → x7 ≤ ma → evCheck_pre x0 x1 x2 x3 x4 x5 x6 x7 m →
 ((x0 < 1 →
 ((K.i64 2) ∧ evCheck_post x0 x1 x2 x3 x4 x5 x6 x7 m 2)) ∧
 (1 ≤ x0 →
 ((9 ≤ x0 →
 ((K.i64 2) ∧ evCheck_post x0 x1 x2 x3 x4 x5 x6 x7 m 2)) ∧
 (x0 < 9 →
 ((x0 = 1 →
 ((evvalid_pre x1 m) ∧ ∀ m1 : Mem, MemSub m m1 → ∀ b0 : Bool, evvalid_post x1 m1 b0 →
 ((b0 = false →
 ((K.i64 14) ∧ evCheck_post x0 x1 x2 x3 x4 x5 x6 x7 m1 14)) ∧
 (b0 = true →
 ((evvalid_pre x3 m1) ∧ ∀ m2 : Mem, MemSub m1 m2 → ∀ b1 : Bool, evvalid_post x3 m2 b1 →
 ((b1 = false →
 ((K.i64 14) ∧ evCheck_post x0 x1 x2 x3 x4 x5 x6 x7 m2 14)) ∧
 (b1 = true →
 ((evin_pre true x2 0 63 m2) ∧ ∀ m3 : Mem, MemSub m2 m3 → ∀ b2 : Bool, evin_post true x2 0 63 m3 b2 →
 ((b2 = true →
 ((evin_pre true x3 0 x1 m3) ∧ ∀ m4 : Mem, MemSub m3 m4 → ∀ b3 : Bool, evin_post true x3 0 x1 m4 b3 →
 ((b3 = true →
 ((evin_pre true x4 1 21 m4) ∧ ∀ m5 : Mem, MemSub m4 m5 → ∀ b4 : Bool, evin_post true x4 1 21 m5 b4 →
 ((b4 = true →
 ((evin_pre true x5 1 9223372036854775807 m5) ∧ ∀ m6 : Mem, MemSub m5 m6 → ∀ b5 : Bool, evin_post true x5 1 9223372036854775807 m6 b5 →
 ((b5 = true →
 ((x1 + 1) ≤ 9223372036854775807 ∧ ((x1 + 1) ≤ 9223372036854775807 ∧ ((evin_pre false x7 (x1 + 1) 4611686018427387904 m6) ∧ ∀ m7 : Mem, MemSub m6 m7 → ∀ b6 : Bool, evin_post false x7 (x1 + 1) 4611686018427387904 m7 b6 →
 ((b6 = true →
 ((evin_pre false x6 1 0 m7) ∧ ∀ m8 : Mem, MemSub m7 m8 → ∀ b7 : Bool, evin_post false x6 1 0 m8 b7 →
 ((b7 = true →
 ((K.i64 0) ∧ evCheck_post x0 x1 x2 x3 x4 x5 x6 x7 m8 0)) ∧
 (b7 = false →
 ((K.i64 2) ∧ evCheck_post x0 x1 x2 x3 x4 x5 x6 x7 m8 2))))) ∧
 (b6 = false →
 ((K.i64 2) ∧ evCheck_post x0 x1 x2 x3 x4 x5 x6 x7 m7 2))))))) ∧
 (b5 = false →
 ((K.i64 2) ∧ evCheck_post x0 x1 x2 x3 x4 x5 x6 x7 m6 2))))) ∧
 (b4 = false →
 ((K.i64 2) ∧ evCheck_post x0 x1 x2 x3 x4 x5 x6 x7 m5 2))))) ∧
 (b3 = false →
 ((K.i64 2) ∧ evCheck_post x0 x1 x2 x3 x4 x5 x6 x7 m4 2))))) ∧
 (b2 = false →
 ((K.i64 2) ∧ evCheck_post x0 x1 x2 x3 x4 x5 x6 x7 m3 2))))))))))) ∧
 (x0 ≠ 1 →
 ((x0 = 2 →
 ((evvalid_pre x1 m) ∧ ∀ m1 : Mem, MemSub m m1 → ∀ b0 : Bool, evvalid_post x1 m1 b0 →
 ((b0 = false →
 ((K.i64 14) ∧ evCheck_post x0 x1 x2 x3 x4 x5 x6 x7 m1 14)) ∧
 (b0 = true →
 ((evvalid_pre x3 m1) ∧ ∀ m2 : Mem, MemSub m1 m2 → ∀ b1 : Bool, evvalid_post x3 m2 b1 →
 ((b1 = false →
 ((K.i64 14) ∧ evCheck_post x0 x1 x2 x3 x4 x5 x6 x7 m2 14)) ∧
 (b1 = true →
 ((evin_pre true x2 0 63 m2) ∧ ∀ m3 : Mem, MemSub m2 m3 → ∀ b2 : Bool, evin_post true x2 0 63 m3 b2 →
 ((b2 = true →
 ((evin_pre true x3 0 x1 m3) ∧ ∀ m4 : Mem, MemSub m3 m4 → ∀ b3 : Bool, evin_post true x3 0 x1 m4 b3 →
 ((b3 = true →
 ((evin_pre true x4 1 21 m4) ∧ ∀ m5 : Mem, MemSub m4 m5 → ∀ b4 : Bool, evin_post true x4 1 21 m5 b4 →
 ((b4 = true →
 ((evin_pre true x5 1 9223372036854775807 m5) ∧ ∀ m6 : Mem, MemSub m5 m6 → ∀ b5 : Bool, evin_post true x5 1 9223372036854775807 m6 b5 →
 ((b5 = true →
 ((x1 + 1) ≤ 9223372036854775807 ∧ ((x1 + 1) ≤ 9223372036854775807 ∧ ((evin_pre false x7 (x1 + 1) 4611686018427387904 m6) ∧ ∀ m7 : Mem, MemSub m6 m7 → ∀ b6 : Bool, evin_post false x7 (x1 + 1) 4611686018427387904 m7 b6 →
 ((b6 = true →
 ((evin_pre false x6 1 0 m7) ∧ ∀ m8 : Mem, MemSub m7 m8 → ∀ b7 : Bool, evin_post false x6 1 0 m8 b7 →
 ((b7 = true →
 ((K.i64 0) ∧ evCheck_post x0 x1 x2 x3 x4 x5 x6 x7 m8 0)) ∧
 (b7 = false →
 ((K.i64 2) ∧ evCheck_post x0 x1 x2 x3 x4 x5 x6 x7 m8 2))))) ∧
 (b6 = false →
 ((K.i64 2) ∧ evCheck_post x0 x1 x2 x3 x4 x5 x6 x7 m7 2))))))) ∧
 (b5 = false →
 ((K.i64 2) ∧ evCheck_post x0 x1 x2 x3 x4 x5 x6 x7 m6 2))))) ∧
 (b4 = false →
 ((K.i64 2) ∧ evCheck_post x0 x1 x2 x3 x4 x5 x6 x7 m5 2))))) ∧
 (b3 = false →
 ((K.i64 2) ∧ evCheck_post x0 x1 x2 x3 x4 x5 x6 x7 m4 2))))) ∧
 (b2 = false →
 ((K.i64 2) ∧ evCheck_post x0 x1 x2 x3 x4 x5 x6 x7 m3 2))))))))))) ∧
 (x0 ≠ 2 →
 ((x0 = 3 →
 ((evvalid_pre x1 m) ∧ ∀ m1 : Mem, MemSub m m1 → ∀ b0 : Bool, evvalid_post x1 m1 b0 →
 ((b0 = false →
 ((K.i64 14) ∧ evCheck_post x0 x1 x2 x3 x4 x5 x6 x7 m1 14)) ∧
 (b0 = true →
 ((evvalid_pre x3 m1) ∧ ∀ m2 : Mem, MemSub m1 m2 → ∀ b1 : Bool, evvalid_post x3 m2 b1 →
 ((b1 = false →
 ((K.i64 14) ∧ evCheck_post x0 x1 x2 x3 x4 x5 x6 x7 m2 14)) ∧
 (b1 = true →
 ((evin_pre true x2 0 63 m2) ∧ ∀ m3 : Mem, MemSub m2 m3 → ∀ b2 : Bool, evin_post true x2 0 63 m3 b2 →
 ((b2 = true →
 ((evin_pre true x3 0 x1 m3) ∧ ∀ m4 : Mem, MemSub m3 m4 → ∀ b3 : Bool, evin_post true x3 0 x1 m4 b3 →
 ((b3 = true →
 ((evin_pre true x4 1 21 m4) ∧ ∀ m5 : Mem, MemSub m4 m5 → ∀ b4 : Bool, evin_post true x4 1 21 m5 b4 →
 ((b4 = true →
 ((evin_pre true x5 1 9223372036854775807 m5) ∧ ∀ m6 : Mem, MemSub m5 m6 → ∀ b5 : Bool, evin_post true x5 1 9223372036854775807 m6 b5 →
 ((b5 = true →
 ((x1 + 1) ≤ 9223372036854775807 ∧ ((x1 + 1) ≤ 9223372036854775807 ∧ ((evin_pre false x7 (x1 + 1) 4611686018427387904 m6) ∧ ∀ m7 : Mem, MemSub m6 m7 → ∀ b6 : Bool, evin_post false x7 (x1 + 1) 4611686018427387904 m7 b6 →
 ((b6 = true →
 ((evin_pre false x6 1 0 m7) ∧ ∀ m8 : Mem, MemSub m7 m8 → ∀ b7 : Bool, evin_post false x6 1 0 m8 b7 →
 ((b7 = true →
 ((K.i64 0) ∧ evCheck_post x0 x1 x2 x3 x4 x5 x6 x7 m8 0)) ∧
 (b7 = false →
 ((K.i64 2) ∧ evCheck_post x0 x1 x2 x3 x4 x5 x6 x7 m8 2))))) ∧
 (b6 = false →
 ((K.i64 2) ∧ evCheck_post x0 x1 x2 x3 x4 x5 x6 x7 m7 2))))))) ∧
 (b5 = false →
 ((K.i64 2) ∧ evCheck_post x0 x1 x2 x3 x4 x5 x6 x7 m6 2))))) ∧
 (b4 = false →
 ((K.i64 2) ∧ evCheck_post x0 x1 x2 x3 x4 x5 x6 x7 m5 2))))) ∧
 (b3 = false →
 ((K.i64 2) ∧ evCheck_post x0 x1 x2 x3 x4 x5 x6 x7 m4 2))))) ∧
 (b2 = false →
 ((K.i64 2) ∧ evCheck_post x0 x1 x2 x3 x4 x5 x6 x7 m3 2))))))))))) ∧
 (x0 ≠ 3 →
 ((x0 = 4 →
 ((evvalid_pre x1 m) ∧ ∀ m1 : Mem, MemSub m m1 → ∀ b0 : Bool, evvalid_post x1 m1 b0 →
 ((b0 = false →
 ((K.i64 14) ∧ evCheck_post x0 x1 x2 x3 x4 x5 x6 x7 m1 14)) ∧
 (b0 = true →
 ((evvalid_pre x3 m1) ∧ ∀ m2 : Mem, MemSub m1 m2 → ∀ b1 : Bool, evvalid_post x3 m2 b1 →
 ((b1 = false →
 ((K.i64 14) ∧ evCheck_post x0 x1 x2 x3 x4 x5 x6 x7 m2 14)) ∧
 (b1 = true →
 ((evin_pre true x2 0 63 m2) ∧ ∀ m3 : Mem, MemSub m2 m3 → ∀ b2 : Bool, evin_post true x2 0 63 m3 b2 →
 ((b2 = true →
 ((evin_pre true x3 0 x1 m3) ∧ ∀ m4 : Mem, MemSub m3 m4 → ∀ b3 : Bool, evin_post true x3 0 x1 m4 b3 →
 ((b3 = true →
 ((evin_pre true x4 2 21 m4) ∧ ∀ m5 : Mem, MemSub m4 m5 → ∀ b4 : Bool, evin_post true x4 2 21 m5 b4 →
 ((b4 = true →
 ((evin_pre false x5 1 9223372036854775807 m5) ∧ ∀ m6 : Mem, MemSub m5 m6 → ∀ b5 : Bool, evin_post false x5 1 9223372036854775807 m6 b5 →
 ((b5 = true →
 ((x1 + 1) ≤ 9223372036854775807 ∧ ((x1 + 1) ≤ 9223372036854775807 ∧ ((evin_pre true x7 (x1 + 1) 4611686018427387904 m6) ∧ ∀ m7 : Mem, MemSub m6 m7 → ∀ b6 : Bool, evin_post true x7 (x1 + 1) 4611686018427387904 m7 b6 →
 ((b6 = true →
 ((evin_pre false x6 1 0 m7) ∧ ∀ m8 : Mem, MemSub m7 m8 → ∀ b7 : Bool, evin_post false x6 1 0 m8 b7 →
 ((b7 = true →
 ((K.i64 0) ∧ evCheck_post x0 x1 x2 x3 x4 x5 x6 x7 m8 0)) ∧
 (b7 = false →
 ((K.i64 2) ∧ evCheck_post x0 x1 x2 x3 x4 x5 x6 x7 m8 2))))) ∧
 (b6 = false →
 ((K.i64 2) ∧ evCheck_post x0 x1 x2 x3 x4 x5 x6 x7 m7 2))))))) ∧
 (b5 = false →
 ((K.i64 2) ∧ evCheck_post x0 x1 x2 x3 x4 x5 x6 x7 m6 2))))) ∧
 (b4 = false →
 ((K.i64 2) ∧ evCheck_post x0 x1 x2 x3 x4 x5 x6 x7 m5 2))))) ∧
 (b3 = false →
 ((K.i64 2) ∧ evCheck_post x0 x1 x2 x3 x4 x5 x6 x7 m4 2))))) ∧
 (b2 = false →
 ((K.i64 2) ∧ evCheck_post x0 x1 x2 x3 x4 x5 x6 x7 m3 2))))))))))) ∧
 (x0 ≠ 4 →
 ((x0 = 5 →
 ((evvalid_pre x1 m) ∧ ∀ m1 : Mem, MemSub m m1 → ∀ b0 : Bool, evvalid_post x1 m1 b0 →
 ((b0 = false →
 ((K.i64 14) ∧ evCheck_post x0 x1 x2 x3 x4 x5 x6 x7 m1 14)) ∧
 (b0 = true →
 ((evvalid_pre x3 m1) ∧ ∀ m2 : Mem, MemSub m1 m2 → ∀ b1 : Bool, evvalid_post x3 m2 b1 →
 ((b1 = false →
 ((K.i64 14) ∧ evCheck_post x0 x1 x2 x3 x4 x5 x6 x7 m2 14)) ∧
 (b1 = true →
 ((evin_pre true x2 0 63 m2) ∧ ∀ m3 : Mem, MemSub m2 m3 → ∀ b2 : Bool, evin_post true x2 0 63 m3 b2 →
 ((b2 = true →
 ((evin_pre true x3 0 x1 m3) ∧ ∀ m4 : Mem, MemSub m3 m4 → ∀ b3 : Bool, evin_post true x3 0 x1 m4 b3 →
 ((b3 = true →
 ((evin_pre true x4 1 21 m4) ∧ ∀ m5 : Mem, MemSub m4 m5 → ∀ b4 : Bool, evin_post true x4 1 21 m5 b4 →
 ((b4 = true →
 ((evin_pre false x5 1 9223372036854775807 m5) ∧ ∀ m6 : Mem, MemSub m5 m6 → ∀ b5 : Bool, evin_post false x5 1 9223372036854775807 m6 b5 →
 ((b5 = true →
 ((x1 + 1) ≤ 9223372036854775807 ∧ ((x1 + 1) ≤ 9223372036854775807 ∧ ((evin_pre false x7 (x1 + 1) 4611686018427387904 m6) ∧ ∀ m7 : Mem, MemSub m6 m7 → ∀ b6 : Bool, evin_post false x7 (x1 + 1) 4611686018427387904 m7 b6 →
 ((b6 = true →
 ((evin_pre true x6 1 6 m7) ∧ ∀ m8 : Mem, MemSub m7 m8 → ∀ b7 : Bool, evin_post true x6 1 6 m8 b7 →
 ((b7 = true →
 ((K.i64 0) ∧ evCheck_post x0 x1 x2 x3 x4 x5 x6 x7 m8 0)) ∧
 (b7 = false →
 ((K.i64 2) ∧ evCheck_post x0 x1 x2 x3 x4 x5 x6 x7 m8 2))))) ∧
 (b6 = false →
 ((K.i64 2) ∧ evCheck_post x0 x1 x2 x3 x4 x5 x6 x7 m7 2))))))) ∧
 (b5 = false →
 ((K.i64 2) ∧ evCheck_post x0 x1 x2 x3 x4 x5 x6 x7 m6 2))))) ∧
 (b4 = false →
 ((K.i64 2) ∧ evCheck_post x0 x1 x2 x3 x4 x5 x6 x7 m5 2))))) ∧
 (b3 = false →
 ((K.i64 2) ∧ evCheck_post x0 x1 x2 x3 x4 x5 x6 x7 m4 2))))) ∧
 (b2 = false →
 ((K.i64 2) ∧ evCheck_post x0 x1 x2 x3 x4 x5 x6 x7 m3 2))))))))))) ∧
 (x0 ≠ 5 →
 ((x0 = 6 →
 ((evvalid_pre x1 m) ∧ ∀ m1 : Mem, MemSub m m1 → ∀ b0 : Bool, evvalid_post x1 m1 b0 →
 ((b0 = false →
 ((K.i64 14) ∧ evCheck_post x0 x1 x2 x3 x4 x5 x6 x7 m1 14)) ∧
 (b0 = true →
 ((evin_pre false x2 0 63 m1) ∧ ∀ m2 : Mem, MemSub m1 m2 → ∀ b1 : Bool, evin_post false x2 0 63 m2 b1 →
 ((b1 = true →
 ((evin_pre false x3 0 x1 m2) ∧ ∀ m3 : Mem, MemSub m2 m3 → ∀ b2 : Bool, evin_post false x3 0 x1 m3 b2 →
 ((b2 = true →
 ((evin_pre false x4 1 21 m3) ∧ ∀ m4 : Mem, MemSub m3 m4 → ∀ b3 : Bool, evin_post false x4 1 21 m4 b3 →
 ((b3 = true →
 ((evin_pre false x5 1 9223372036854775807 m4) ∧ ∀ m5 : Mem, MemSub m4 m5 → ∀ b4 : Bool, evin_post false x5 1 9223372036854775807 m5 b4 →
 ((b4 = true →
 ((x1 + 1) ≤ 9223372036854775807 ∧ ((x1 + 1) ≤ 9223372036854775807 ∧ ((evin_pre false x7 (x1 + 1) 4611686018427387904 m5) ∧ ∀ m6 : Mem, MemSub m5 m6 → ∀ b5 : Bool, evin_post false x7 (x1 + 1) 4611686018427387904 m6 b5 →
 ((b5 = true →
 ((evin_pre true x6 1 16 m6) ∧ ∀ m7 : Mem, MemSub m6 m7 → ∀ b6 : Bool, evin_post true x6 1 16 m7 b6 →
 ((b6 = true →
 ((K.i64 0) ∧ evCheck_post x0 x1 x2 x3 x4 x5 x6 x7 m7 0)) ∧
 (b6 = false →
 ((K.i64 2) ∧ evCheck_post x0 x1 x2 x3 x4 x5 x6 x7 m7 2))))) ∧
 (b5 = false →
 ((K.i64 2) ∧ evCheck_post x0 x1 x2 x3 x4 x5 x6 x7 m6 2))))))) ∧
 (b4 = false →
 ((K.i64 2) ∧ evCheck_post x0 x1 x2 x3 x4 x5 x6 x7 m5 2))))) ∧
 (b3 = false →
 ((K.i64 2) ∧ evCheck_post x0 x1 x2 x3 x4 x5 x6 x7 m4 2))))) ∧
 (b2 = false →
 ((K.i64 2) ∧ evCheck_post x0 x1 x2 x3 x4 x5 x6 x7 m3 2))))) ∧
 (b1 = false →
 ((K.i64 2) ∧ evCheck_post x0 x1 x2 x3 x4 x5 x6 x7 m2 2)))))))) ∧
 (x0 ≠ 6 →
 ((x0 = 7 →
 ((evvalid_pre x1 m) ∧ ∀ m1 : Mem, MemSub m m1 → ∀ b0 : Bool, evvalid_post x1 m1 b0 →
 ((b0 = false →
 ((K.i64 14) ∧ evCheck_post x0 x1 x2 x3 x4 x5 x6 x7 m1 14)) ∧
 (b0 = true →
 ((evin_pre true x2 0 63 m1) ∧ ∀ m2 : Mem, MemSub m1 m2 → ∀ b1 : Bool, evin_post true x2 0 63 m2 b1 →
 ((b1 = true →
 ((evin_pre false x3 0 x1 m2) ∧ ∀ m3 : Mem, MemSub m2 m3 → ∀ b2 : Bool, evin_post false x3 0 x1 m3 b2 →
 ((b2 = true →
 ((evin_pre false x4 1 21 m3) ∧ ∀ m4 : Mem, MemSub m3 m4 → ∀ b3 : Bool, evin_post false x4 1 21 m4 b3 →
 ((b3 = true →
 ((evin_pre false x5 1 9223372036854775807 m4) ∧ ∀ m5 : Mem, MemSub m4 m5 → ∀ b4 : Bool, evin_post false x5 1 9223372036854775807 m5 b4 →
 ((b4 = true →
 ((x1 + 1) ≤ 9223372036854775807 ∧ ((x1 + 1) ≤ 9223372036854775807 ∧ ((evin_pre true x7 (x1 + 1) 4611686018427387904 m5) ∧ ∀ m6 : Mem, MemSub m5 m6 → ∀ b5 : Bool, evin_post true x7 (x1 + 1) 4611686018427387904 m6 b5 →
 ((b5 = true →
 ((evin_pre false x6 1 0 m6) ∧ ∀ m7 : Mem, MemSub m6 m7 → ∀ b6 : Bool, evin_post false x6 1 0 m7 b6 →
 ((b6 = true →
 ((K.i64 0) ∧ evCheck_post x0 x1 x2 x3 x4 x5 x6 x7 m7 0)) ∧
 (b6 = false →
 ((K.i64 2) ∧ evCheck_post x0 x1 x2 x3 x4 x5 x6 x7 m7 2))))) ∧
 (b5 = false →
 ((K.i64 2) ∧ evCheck_post x0 x1 x2 x3 x4 x5 x6 x7 m6 2))))))) ∧
 (b4 = false →
 ((K.i64 2) ∧ evCheck_post x0 x1 x2 x3 x4 x5 x6 x7 m5 2))))) ∧
 (b3 = false →
 ((K.i64 2) ∧ evCheck_post x0 x1 x2 x3 x4 x5 x6 x7 m4 2))))) ∧
 (b2 = false →
 ((K.i64 2) ∧ evCheck_post x0 x1 x2 x3 x4 x5 x6 x7 m3 2))))) ∧
 (b1 = false →
 ((K.i64 2) ∧ evCheck_post x0 x1 x2 x3 x4 x5 x6 x7 m2 2)))))))) ∧
 (x0 ≠ 7 →
 ((x0 = 8 →
 ((evvalid_pre x1 m) ∧ ∀ m1 : Mem, MemSub m m1 → ∀ b0 : Bool, evvalid_post x1 m1 b0 →
 ((b0 = false →
 ((K.i64 14) ∧ evCheck_post x0 x1 x2 x3 x4 x5 x6 x7 m1 14)) ∧
 (b0 = true →
 ((evin_pre true x2 0 63 m1) ∧ ∀ m2 : Mem, MemSub m1 m2 → ∀ b1 : Bool, evin_post true x2 0 63 m2 b1 →
 ((b1 = true →
 ((evin_pre false x3 0 x1 m2) ∧ ∀ m3 : Mem, MemSub m2 m3 → ∀ b2 : Bool, evin_post false x3 0 x1 m3 b2 →
 ((b2 = true →
 ((evin_pre false x4 1 21 m3) ∧ ∀ m4 : Mem, MemSub m3 m4 → ∀ b3 : Bool, evin_post false x4 1 21 m4 b3 →
 ((b3 = true →
 ((evin_pre false x5 1 9223372036854775807 m4) ∧ ∀ m5 : Mem, MemSub m4 m5 → ∀ b4 : Bool, evin_post false x5 1 9223372036854775807 m5 b4 →
 ((b4 = true →
 ((x1 + 1) ≤ 9223372036854775807 ∧ ((x1 + 1) ≤ 9223372036854775807 ∧ ((evin_pre false x7 (x1 + 1) 4611686018427387904 m5) ∧ ∀ m6 : Mem, MemSub m5 m6 → ∀ b5 : Bool, evin_post false x7 (x1 + 1) 4611686018427387904 m6 b5 →
 ((b5 = true →
 ((evin_pre false x6 1 0 m6) ∧ ∀ m7 : Mem, MemSub m6 m7 → ∀ b6 : Bool, evin_post false x6 1 0 m7 b6 →
 ((b6 = true →
 ((K.i64 0) ∧ evCheck_post x0 x1 x2 x3 x4 x5 x6 x7 m7 0)) ∧
 (b6 = false →
 ((K.i64 2) ∧ evCheck_post x0 x1 x2 x3 x4 x5 x6 x7 m7 2))))) ∧
 (b5 = false →
 ((K.i64 2) ∧ evCheck_post x0 x1 x2 x3 x4 x5 x6 x7 m6 2))))))) ∧
 (b4 = false →
 ((K.i64 2) ∧ evCheck_post x0 x1 x2 x3 x4 x5 x6 x7 m5 2))))) ∧
 (b3 = false →
 ((K.i64 2) ∧ evCheck_post x0 x1 x2 x3 x4 x5 x6 x7 m4 2))))) ∧
 (b2 = false →
 ((K.i64 2) ∧ evCheck_post x0 x1 x2 x3 x4 x5 x6 x7 m3 2))))) ∧
 (b1 = false →
 ((K.i64 2) ∧ evCheck_post x0 x1 x2 x3 x4 x5 x6 x7 m2 2)))))))) ∧
 (x0 ≠ 8 →
 False /- err 120 -/))))))))))))))))))))
theorem evCheck_vc : evCheck_VC := by
 intro m x0 _ _ x1 _ _ x2 _ _ x3 _ _ x4 _ _ x5 _ _ x6 _ _ x7 _ _ _
 repeat' first | (refine And.intro ?_ ?_) | intro _
 all_goals first
  | trivial
  | (constructor <;> decide)
  | (simp only [show IntKind.i64.min = -9223372036854775808 from rfl, show IntKind.i64.max = 9223372036854775807 from rfl] at *; omega)
  | (simp only [evin_post, evvalid_post] at *; subst_vars; simp_all [evCheck_post, As.evP, As.usesK]; done)
  | (simp only [evin_post, evvalid_post, As.timeB] at *; subst_vars; simp_all; omega)
  | (simp only [evCheck_post, As.evP]; rw [if_pos (by omega)])
theorem evCheck_ok : SpOk Tryz.prog evCheck :=
 con_ok (sps_of [evin, evvalid] ⟨evin_ok, ⟨evvalid_ok, trivial⟩⟩ rfl) (tab_ok _ []) 1000 evCheck _ rfl rfl (Eq.mp (show evCheck_VC = _ by kernel_rfl) evCheck_vc)
end Go.Proofs.YtjabmipkllkfbaaGreatDoor.Vc
namespace Go.Proofs.YtjabmipkllkfbaaGreatDoor.Vc
theorem k64 {z : Int} (h : -9223372036854775808 ≤ z) (k : z ≤ 9223372036854775807) : K.i64 z := ⟨h, k⟩
end Go.Proofs.YtjabmipkllkfbaaGreatDoor.Vc
namespace Go.Proofs.YtjabmipkllkfbaaGreatDoor.Vc
open As
def evMatch (x u : Ev) : Bool := u.run == x.run && (u.job == x.job && (u.due == x.due && u.attempt == x.attempt))
def backw (p : List Ev) (x : Ev) : Bool := match p.getLast? with | some y => decide (x.at_ < y.at_) | none => false
def evRun (p : List Ev) (x : Ev) : Int := if x.kind = 1 then (if x.run ≠ lastR p + 1 then 8 else 0) else if isEnd x = true then (if (und p).any (evMatch x) = true then 0 else 8) else 0
def evErr (jobs : Int) (p : List Ev) (x : Ev) : Int := if evP x ≠ 0 then evP x else if x.kind ≠ 6 ∧ jobs ≤ x.job then 3 else if backw p x = true then 8 else evRun p x
def trcGo (jobs : Int) : List Ev → List Ev → Int × Int
 | _, [] => (0, 0)
 | p, x :: r => if evErr jobs p x ≠ 0 then ((p.length : Int), evErr jobs p x) else trcGo jobs (p ++ [x]) r
def trcE (jobs : Int) (l : List Ev) : Int × Int := if jobs < 0 ∨ 64 < jobs then (0, 2) else trcGo jobs [] l
def evCells (u : Ev) : List Value := [.int .i64 u.kind, .int .i64 u.at_, .int .i64 u.job, .int .i64 u.due, .int .i64 u.attempt, .int .i64 u.run, .int .i64 u.why, .int .i64 u.when_]
def encE (u : Ev) : Value := .tuple #[.int .i64 u.run, .agg (List.toArray (evCells u))]
theorem mf_none (r : Int) : ∀ (U : List Ev) (i : Nat), (∀ u ∈ U, u.run ≠ r) → mFind (.int .i64 r) (U.map encE) i = some none := by
 intro U
 induction U with
 | nil => intro i _; rfl
 | cons u U ih =>
  intro i h
  have h1 : sameKey (.int .i64 r) (.int .i64 u.run) = some false := by
   have := h u (List.mem_cons_self ..)
   simp only [sameKey, if_true]
   congr 1
   simp; omega
  simp only [List.map_cons, encE, mFind, h1]
  exact ih _ fun v hv => h v (List.mem_cons_of_mem _ hv)
theorem mf_some (r : Int) : ∀ (U : List Ev) (i : Nat) (u : Ev), U.Pairwise (fun a b => a.run < b.run) → u ∈ U → u.run = r →
  ∃ j, mFind (.int .i64 r) (U.map encE) i = some (some (i + j, .agg (List.toArray (evCells u)))) ∧ (U.map encE).eraseIdx j = (U.filter fun z => decide (z.run ≠ r)).map encE := by
 intro U
 induction U with
 | nil => intro i u _ h; cases h
 | cons v U ih =>
  intro i u hp hu hr
  rw [List.pairwise_cons] at hp
  by_cases hv : v.run = r
  ·have : u = v := by
    cases hu with
    | head => rfl
    | tail _ hu => have := hp.1 u hu; omega
   subst this
   have h1 : sameKey (.int .i64 r) (.int .i64 u.run) = some true := by rw [hv]; simp [sameKey]
   refine ⟨0, by simp only [List.map_cons, encE, mFind, h1, Nat.add_zero], ?_⟩
   rw [List.filter_cons_of_neg (by simp [hv]), List.filter_eq_self.2 (fun z hz => by have := hp.1 z hz; exact decide_eq_true (by omega))]
   rfl
  ·have hu' : u ∈ U := by
    cases hu with
    | head => exact (hv hr).elim
    | tail _ hu => exact hu
   have h1 : sameKey (.int .i64 r) (.int .i64 v.run) = some false := by
    simp only [sameKey, if_true]
    congr 1
    simp; omega
   obtain ⟨j, e1, e2⟩ := ih (i + 1) u hp.2 hu' hr
   refine ⟨j + 1, ?_, ?_⟩
   ·simp only [List.map_cons, encE, mFind, h1]
    rw [show i + (j + 1) = i + 1 + j by omega]; exact e1
   ·rw [List.filter_cons_of_pos (by simp [hv])]
    simp only [List.map_cons, List.eraseIdx_cons_succ, e2]
theorem any_of (x : Ev) : ∀ (U : List Ev) (u : Ev), U.Pairwise (fun a b => a.run < b.run) → u ∈ U → u.run = x.run → U.any (evMatch x) = (u.job == x.job && (u.due == x.due && u.attempt == x.attempt)) := by
 intro U
 induction U with
 | nil => intro u _ h; cases h
 | cons v U ih =>
  intro u hp hu hr
  rw [List.pairwise_cons] at hp
  by_cases hv : v.run = x.run
  ·have : u = v := by
    cases hu with
    | head => rfl
    | tail _ hu => have := hp.1 u hu; omega
   subst this
   have hno : U.any (evMatch x) = false := by
    rw [List.any_eq_false]
    intro z hz
    have := hp.1 z hz
    have hb : (z.run == x.run) = false := by simp; omega
    simp [evMatch, hb]
   rw [List.any_cons, hno, Bool.or_false]
   simp [evMatch, hv]
  ·have hu' : u ∈ U := by
    cases hu with
    | head => exact (hv hr).elim
    | tail _ hu => exact hu
   have hb : (v.run == x.run) = false := by simp [hv]
   rw [List.any_cons, ih u hp.2 hu' hr]
   simp [evMatch, hb]
theorem und_sub : ∀ (l : List Ev), ∀ u ∈ und l, u ∈ l := by
 have key : ∀ (r l : List Ev) (acc : List Ev), (∀ u ∈ acc, u ∈ l) → ∀ u ∈ r.foldl undS acc, u ∈ l ∨ u ∈ r := by
  intro r
  induction r with
  | nil => intro l acc h u hu; exact .inl (h u hu)
  | cons x r ih =>
   intro l acc h u hu
   have := ih (l ++ [x]) (undS acc x) (fun v hv => by
    unfold undS at hv
    split at hv
    ·rcases List.mem_append.1 hv with hv | hv
     ·exact List.mem_append_left _ (h v hv)
     ·exact List.mem_append_right _ hv
    ·split at hv
     ·exact List.mem_append_left _ (h v (List.mem_filter.1 hv).1)
     ·exact List.mem_append_left _ (h v hv)) u hu
   rcases this with this | this
   ·rcases List.mem_append.1 this with h1 | h1
    ·exact .inl h1
    ·exact .inr (by rw [List.mem_singleton] at h1; rw [h1]; exact List.mem_cons_self ..)
   ·exact .inr (List.mem_cons_of_mem _ this)
 intro l u hu
 rcases key l [] [] (fun u h => by cases h) u hu with h | h
 ·cases h
 ·exact h
theorem last_len {l : List Ev} (h : As.Trace l) : lastR l ≤ (l.length : Int) := by
 induction h with
 | nil => exact Int.le_refl _
 | @snoc l x _ hp ih =>
  rw [last_snoc, List.length_append]
  by_cases hk : x.kind = 1
  ·rw [if_pos hk, hp.1 hk]; simp; omega
  ·rw [if_neg hk]; simp; omega
theorem backw_take {l : List Ev} {i : Nat} {x : Ev} : backw (l.take i) x = (match l[i - 1]? with | some y => decide (0 < i) && decide (x.at_ < y.at_) | none => false) ∨ l.length < i := by
 by_cases hi : i ≤ l.length
 ·left
  unfold backw
  rw [List.getLast?_eq_getElem?, List.length_take, Nat.min_eq_left hi]
  rcases Nat.eq_zero_or_pos i with rfl | h0
  ·simp
   split <;> rfl
  ·rw [List.getElem?_take_of_lt (by omega)]
   split <;> simp_all
 ·right; omega
def tChk_pre (p : Option Addr) (n c : Nat) (j : Int) (m : Mem) : Prop := ∃ l, EvsAt m p n l
def tChk_post (p : Option Addr) (n c : Nat) (j : Int) (m : Mem) (i e : Int) : Prop := ∀ l, EvsAt m p n l → (i, e) = trcE j l
def tChk : Sp := { args := [.sl, .i .i64], grp := [none, none], res := [.i .i64, .i .i64], rgrp := [none, none], fn := 35, spec := fun a0 a1 a2 a3 => (tChk_pre a0 a1 a2 a3, tChk_post a0 a1 a2 a3) }
def tChk_VC : Prop := ∀ m : Mem, ∀ (p0 : Option Addr) (n0 c0 : Nat), n0 ≤ 9223372036854775807 → c0 ≤ 9223372036854775807 → ∀ x2 : Int, mi ≤ x2 → x2 ≤ ma → tChk_pre p0 n0 c0 x2 m →
 ((x2 < 0 →
 ((K.i64 0) ∧ (K.i64 2) ∧ tChk_post p0 n0 c0 x2 m 0 2)) ∧
 (0 ≤ x2 →
 ((64 < x2 →
 ((K.i64 0) ∧ (K.i64 2) ∧ tChk_post p0 n0 c0 x2 m 0 2)) ∧
 (x2 ≤ 64 →
 (∀ k1 : Nat, (∃ F1 : Int → Int → Int → Int → List Value → Prop × Nat, ((K.i64 0) ∧ (K.i64 0) ∧ (K.i64 0) ∧ (K.i64 0) ∧ (F1 0 0 0 0 []).1) ∧
 ∀ x3 : Int, mi ≤ x3 → x3 ≤ ma → ∀ x4 : Int, mi ≤ x4 → x4 ≤ ma → ∀ x5 : Int, mi ≤ x5 → x5 ≤ ma → ∀ x6 : Int, mi ≤ x6 → x6 ≤ ma → ∀ r1 : List Value, (F1 x3 x4 x5 x6 r1).1 →
 ((x6 < (n0 : Int) →
 (0 ≤ x6 ∧ (p0 ≠ none ∧ (HasI m p0 (0 + (x6 * 8)) 8 ∧ (∃ x7 : Int, cellI m p0 (0 + (x6 * 8)) = some (vI x7) ∧ (K.i64 x7) ∧ (∃ x8 : Int, cellI m p0 ((0 + (x6 * 8)) + 1) = some (vI x8) ∧ (K.i64 x8) ∧ (∃ x9 : Int, cellI m p0 ((0 + (x6 * 8)) + 2) = some (vI x9) ∧ (K.i64 x9) ∧ (∃ x10 : Int, cellI m p0 ((0 + (x6 * 8)) + 3) = some (vI x10) ∧ (K.i64 x10) ∧ (∃ x11 : Int, cellI m p0 ((0 + (x6 * 8)) + 4) = some (vI x11) ∧ (K.i64 x11) ∧ (∃ x12 : Int, cellI m p0 ((0 + (x6 * 8)) + 5) = some (vI x12) ∧ (K.i64 x12) ∧ (∃ x13 : Int, cellI m p0 ((0 + (x6 * 8)) + 6) = some (vI x13) ∧ (K.i64 x13) ∧ (∃ x14 : Int, cellI m p0 ((0 + (x6 * 8)) + 7) = some (vI x14) ∧ (K.i64 x14) ∧ (evCheck_pre x7 x8 x9 x10 x11 x12 x13 x14 m ∧ ∀ m2 : Mem, MemSub m m2 → ∀ x15 : Int, mi ≤ x15 → x15 ≤ ma → evCheck_post x7 x8 x9 x10 x11 x12 x13 x14 m2 x15 →
 ((x15 ≠ 0 →
 ((K.i64 x6) ∧ (K.i64 x15) ∧ tChk_post p0 n0 c0 x2 m2 x6 x15)) ∧
 (x15 = 0 →
 ((x7 ≠ 6 →
 ((x2 ≤ x9 →
 ((K.i64 x6) ∧ (K.i64 3) ∧ tChk_post p0 n0 c0 x2 m2 x6 3)) ∧
 (x9 < x2 →
 ((0 < x6 →
 ((x6 - 1) < (n0 : Int) ∧ (p0 ≠ none ∧ (HasI m2 p0 ((0 + ((x6 - 1) * 8)) + 1) 1 ∧ (∃ x16 : Int, cellI m2 p0 ((0 + ((x6 - 1) * 8)) + 1) = some (vI x16) ∧ (K.i64 x16) ∧ ((x8 < x16 →
 ((K.i64 x6) ∧ (K.i64 8) ∧ tChk_post p0 n0 c0 x2 m2 x6 8)) ∧
 (x16 ≤ x8 →
 ((x7 = 1 →
 ((x5 + 1) ≤ 9223372036854775807 ∧ ((x12 ≠ (x5 + 1) →
 ((K.i64 x6) ∧ (K.i64 8) ∧ tChk_post p0 n0 c0 x2 m2 x6 8)) ∧
 (x12 = (x5 + 1) →
 (∃ f : Option (Nat × Value), mFind (vI x12) r1 0 = some f ∧ ∀ r2 : List Value, r2 = mSet f r1 (vI x12) (Value.agg (List.toArray [(vI x7), (vI x8), (vI x9), (vI x10), (vI x11), (vI x12), (vI x13), (vI x14)])) → ((x6 + 1) ≤ 9223372036854775807 ∧ ((K.i64 x3) ∧ (K.i64 x4) ∧ (K.i64 x12) ∧ (mi ≤ (x6 + 1) ∧ (x6 + 1) ≤ ma) ∧ ((F1 x3 x4 x12 (x6 + 1) r2).1 ∧ (F1 x3 x4 x12 (x6 + 1) r2).2 < (F1 x3 x4 x5 x6 r1).2)))))))) ∧
 (x7 ≠ 1 →
 ((x7 = 2 →
 (∃ f : Option (Nat × Value), mFind (vI x12) r1 0 = some f ∧ ∀ b0 : Bool, b0 = mIs f → ∃ r2 : List Value, mHas true f [(vI 0), (vI 0), (vI 0), (vI 0), (vI 0), (vI 0), (vI 0), (vI 0)] r2 ∧ ((b0 = false →
 ((K.i64 x6) ∧ (K.i64 8) ∧ tChk_post p0 n0 c0 x2 m2 x6 8)) ∧
 (b0 = true →
 (∃ x17 : Int, rowI r2 2 = some (vI x17) ∧ (K.i64 x17) ∧ ((x17 ≠ x9 →
 ((K.i64 x6) ∧ (K.i64 8) ∧ tChk_post p0 n0 c0 x2 m2 x6 8)) ∧
 (x17 = x9 →
 (∃ x18 : Int, rowI r2 3 = some (vI x18) ∧ (K.i64 x18) ∧ ((x18 ≠ x10 →
 ((K.i64 x6) ∧ (K.i64 8) ∧ tChk_post p0 n0 c0 x2 m2 x6 8)) ∧
 (x18 = x10 →
 (∃ x19 : Int, rowI r2 4 = some (vI x19) ∧ (K.i64 x19) ∧ ((x19 ≠ x11 →
 ((K.i64 x6) ∧ (K.i64 8) ∧ tChk_post p0 n0 c0 x2 m2 x6 8)) ∧
 (x19 = x11 →
 (∃ f : Option (Nat × Value), mFind (vI x12) r1 0 = some f ∧ ∀ r3 : List Value, r3 = mDel f r1 → ((x6 + 1) ≤ 9223372036854775807 ∧ ((K.i64 x3) ∧ (K.i64 x4) ∧ (K.i64 x5) ∧ (mi ≤ (x6 + 1) ∧ (x6 + 1) ≤ ma) ∧ ((F1 x3 x4 x5 (x6 + 1) r3).1 ∧ (F1 x3 x4 x5 (x6 + 1) r3).2 < (F1 x3 x4 x5 x6 r1).2))))))))))))))))) ∧
 (x7 ≠ 2 →
 ((x7 = 3 →
 (∃ f : Option (Nat × Value), mFind (vI x12) r1 0 = some f ∧ ∀ b0 : Bool, b0 = mIs f → ∃ r2 : List Value, mHas true f [(vI 0), (vI 0), (vI 0), (vI 0), (vI 0), (vI 0), (vI 0), (vI 0)] r2 ∧ ((b0 = false →
 ((K.i64 x6) ∧ (K.i64 8) ∧ tChk_post p0 n0 c0 x2 m2 x6 8)) ∧
 (b0 = true →
 (∃ x17 : Int, rowI r2 2 = some (vI x17) ∧ (K.i64 x17) ∧ ((x17 ≠ x9 →
 ((K.i64 x6) ∧ (K.i64 8) ∧ tChk_post p0 n0 c0 x2 m2 x6 8)) ∧
 (x17 = x9 →
 (∃ x18 : Int, rowI r2 3 = some (vI x18) ∧ (K.i64 x18) ∧ ((x18 ≠ x10 →
 ((K.i64 x6) ∧ (K.i64 8) ∧ tChk_post p0 n0 c0 x2 m2 x6 8)) ∧
 (x18 = x10 →
 (∃ x19 : Int, rowI r2 4 = some (vI x19) ∧ (K.i64 x19) ∧ ((x19 ≠ x11 →
 ((K.i64 x6) ∧ (K.i64 8) ∧ tChk_post p0 n0 c0 x2 m2 x6 8)) ∧
 (x19 = x11 →
 (∃ f : Option (Nat × Value), mFind (vI x12) r1 0 = some f ∧ ∀ r3 : List Value, r3 = mDel f r1 → ((x6 + 1) ≤ 9223372036854775807 ∧ ((K.i64 x3) ∧ (K.i64 x4) ∧ (K.i64 x5) ∧ (mi ≤ (x6 + 1) ∧ (x6 + 1) ≤ ma) ∧ ((F1 x3 x4 x5 (x6 + 1) r3).1 ∧ (F1 x3 x4 x5 (x6 + 1) r3).2 < (F1 x3 x4 x5 x6 r1).2))))))))))))))))) ∧
 (x7 ≠ 3 →
 ((x6 + 1) ≤ 9223372036854775807 ∧ ((K.i64 x3) ∧ (K.i64 x4) ∧ (K.i64 x5) ∧ (mi ≤ (x6 + 1) ∧ (x6 + 1) ≤ ma) ∧ ((F1 x3 x4 x5 (x6 + 1) r1).1 ∧ (F1 x3 x4 x5 (x6 + 1) r1).2 < (F1 x3 x4 x5 x6 r1).2)))))))))))))))) ∧
 (x6 ≤ 0 →
 ((x7 = 1 →
 ((x5 + 1) ≤ 9223372036854775807 ∧ ((x12 ≠ (x5 + 1) →
 ((K.i64 x6) ∧ (K.i64 8) ∧ tChk_post p0 n0 c0 x2 m2 x6 8)) ∧
 (x12 = (x5 + 1) →
 (∃ f : Option (Nat × Value), mFind (vI x12) r1 0 = some f ∧ ∀ r2 : List Value, r2 = mSet f r1 (vI x12) (Value.agg (List.toArray [(vI x7), (vI x8), (vI x9), (vI x10), (vI x11), (vI x12), (vI x13), (vI x14)])) → ((K.i64 x3) ∧ (K.i64 x4) ∧ (K.i64 x12) ∧ (mi ≤ (x6 + 1) ∧ (x6 + 1) ≤ ma) ∧ ((F1 x3 x4 x12 (x6 + 1) r2).1 ∧ (F1 x3 x4 x12 (x6 + 1) r2).2 < (F1 x3 x4 x5 x6 r1).2))))))) ∧
 (x7 ≠ 1 →
 ((x7 = 2 →
 (∃ f : Option (Nat × Value), mFind (vI x12) r1 0 = some f ∧ ∀ b0 : Bool, b0 = mIs f → ∃ r2 : List Value, mHas true f [(vI 0), (vI 0), (vI 0), (vI 0), (vI 0), (vI 0), (vI 0), (vI 0)] r2 ∧ ((b0 = false →
 ((K.i64 x6) ∧ (K.i64 8) ∧ tChk_post p0 n0 c0 x2 m2 x6 8)) ∧
 (b0 = true →
 (∃ x16 : Int, rowI r2 2 = some (vI x16) ∧ (K.i64 x16) ∧ ((x16 ≠ x9 →
 ((K.i64 x6) ∧ (K.i64 8) ∧ tChk_post p0 n0 c0 x2 m2 x6 8)) ∧
 (x16 = x9 →
 (∃ x17 : Int, rowI r2 3 = some (vI x17) ∧ (K.i64 x17) ∧ ((x17 ≠ x10 →
 ((K.i64 x6) ∧ (K.i64 8) ∧ tChk_post p0 n0 c0 x2 m2 x6 8)) ∧
 (x17 = x10 →
 (∃ x18 : Int, rowI r2 4 = some (vI x18) ∧ (K.i64 x18) ∧ ((x18 ≠ x11 →
 ((K.i64 x6) ∧ (K.i64 8) ∧ tChk_post p0 n0 c0 x2 m2 x6 8)) ∧
 (x18 = x11 →
 (∃ f : Option (Nat × Value), mFind (vI x12) r1 0 = some f ∧ ∀ r3 : List Value, r3 = mDel f r1 → ((K.i64 x3) ∧ (K.i64 x4) ∧ (K.i64 x5) ∧ (mi ≤ (x6 + 1) ∧ (x6 + 1) ≤ ma) ∧ ((F1 x3 x4 x5 (x6 + 1) r3).1 ∧ (F1 x3 x4 x5 (x6 + 1) r3).2 < (F1 x3 x4 x5 x6 r1).2)))))))))))))))) ∧
 (x7 ≠ 2 →
 ((x7 = 3 →
 (∃ f : Option (Nat × Value), mFind (vI x12) r1 0 = some f ∧ ∀ b0 : Bool, b0 = mIs f → ∃ r2 : List Value, mHas true f [(vI 0), (vI 0), (vI 0), (vI 0), (vI 0), (vI 0), (vI 0), (vI 0)] r2 ∧ ((b0 = false →
 ((K.i64 x6) ∧ (K.i64 8) ∧ tChk_post p0 n0 c0 x2 m2 x6 8)) ∧
 (b0 = true →
 (∃ x16 : Int, rowI r2 2 = some (vI x16) ∧ (K.i64 x16) ∧ ((x16 ≠ x9 →
 ((K.i64 x6) ∧ (K.i64 8) ∧ tChk_post p0 n0 c0 x2 m2 x6 8)) ∧
 (x16 = x9 →
 (∃ x17 : Int, rowI r2 3 = some (vI x17) ∧ (K.i64 x17) ∧ ((x17 ≠ x10 →
 ((K.i64 x6) ∧ (K.i64 8) ∧ tChk_post p0 n0 c0 x2 m2 x6 8)) ∧
 (x17 = x10 →
 (∃ x18 : Int, rowI r2 4 = some (vI x18) ∧ (K.i64 x18) ∧ ((x18 ≠ x11 →
 ((K.i64 x6) ∧ (K.i64 8) ∧ tChk_post p0 n0 c0 x2 m2 x6 8)) ∧
 (x18 = x11 →
 (∃ f : Option (Nat × Value), mFind (vI x12) r1 0 = some f ∧ ∀ r3 : List Value, r3 = mDel f r1 → ((K.i64 x3) ∧ (K.i64 x4) ∧ (K.i64 x5) ∧ (mi ≤ (x6 + 1) ∧ (x6 + 1) ≤ ma) ∧ ((F1 x3 x4 x5 (x6 + 1) r3).1 ∧ (F1 x3 x4 x5 (x6 + 1) r3).2 < (F1 x3 x4 x5 x6 r1).2)))))))))))))))) ∧
 (x7 ≠ 3 →
 ((K.i64 x3) ∧ (K.i64 x4) ∧ (K.i64 x5) ∧ (mi ≤ (x6 + 1) ∧ (x6 + 1) ≤ ma) ∧ ((F1 x3 x4 x5 (x6 + 1) r1).1 ∧ (F1 x3 x4 x5 (x6 + 1) r1).2 < (F1 x3 x4 x5 x6 r1).2))))))))))))) ∧
 (x7 = 6 →
 ((0 < x6 →
 ((x6 - 1) < (n0 : Int) ∧ (p0 ≠ none ∧ (HasI m2 p0 ((0 + ((x6 - 1) * 8)) + 1) 1 ∧ (∃ x16 : Int, cellI m2 p0 ((0 + ((x6 - 1) * 8)) + 1) = some (vI x16) ∧ (K.i64 x16) ∧ ((x8 < x16 →
 ((K.i64 x6) ∧ (K.i64 8) ∧ tChk_post p0 n0 c0 x2 m2 x6 8)) ∧
 (x16 ≤ x8 →
 ((x6 + 1) ≤ 9223372036854775807 ∧ ((K.i64 x3) ∧ (K.i64 x4) ∧ (K.i64 x5) ∧ (mi ≤ (x6 + 1) ∧ (x6 + 1) ≤ ma) ∧ ((F1 x3 x4 x5 (x6 + 1) r1).1 ∧ (F1 x3 x4 x5 (x6 + 1) r1).2 < (F1 x3 x4 x5 x6 r1).2)))))))))) ∧
 (x6 ≤ 0 →
 ((K.i64 x3) ∧ (K.i64 x4) ∧ (K.i64 x5) ∧ (mi ≤ (x6 + 1) ∧ (x6 + 1) ≤ ma) ∧ ((F1 x3 x4 x5 (x6 + 1) r1).1 ∧ (F1 x3 x4 x5 (x6 + 1) r1).2 < (F1 x3 x4 x5 x6 r1).2))))))))))))))))))))) ∧
 ((n0 : Int) ≤ x6 →
 ((K.i64 0) ∧ (K.i64 0) ∧ tChk_post p0 n0 c0 x2 m 0 0)))))))))
set_option maxHeartbeats 4000000 in
theorem tChk_vc : tChk_VC := by
 intro m p n c hn hc jobs hj1 hj2 ⟨l, hl⟩
 have hlen := hl.1
 have ps : ∀ (m' : Mem) (a b : Int), MemSub m m' → (a, b) = trcE jobs l → tChk_post p n c jobs m' a b := fun m' a b h e l' hl' => by
  rw [← hl.uniq h hl']; exact e
 refine ⟨fun h => ⟨by constructor <;> decide, by constructor <;> decide, ps m _ _ (memSub_refl m) (by rw [trcE, if_pos (by omega)])⟩, fun h0 => ⟨fun h => ⟨by constructor <;> decide, by constructor <;> decide, ps m _ _ (memSub_refl m) (by rw [trcE, if_pos (by omega)])⟩, fun h64 k1 => ?_⟩⟩
 have eT : trcE jobs l = trcGo jobs [] l := by rw [trcE, if_neg (by omega)]
 refine ⟨fun a b x5 x6 r => (∃ i : Nat, x6 = i ∧ i ≤ l.length ∧ trcGo jobs [] l = trcGo jobs (l.take i) (l.drop i) ∧ x5 = lastR (l.take i) ∧ r = (und (l.take i)).map encE ∧ As.Trace (l.take i), ((n : Int) - x6).toNat),
  ⟨by constructor <;> decide, by constructor <;> decide, by constructor <;> decide, by constructor <;> decide, 0, rfl, by omega, rfl, rfl, rfl, As.Trace.nil⟩, ?_⟩
 rintro x3 a3 b3 x4 a4 b4 x5 a5 b5 x6 a6 b6 r ⟨i, rfl, hi, hgo, rfl, rfl, htr⟩
 refine ⟨fun hlt => ?_, fun hge => ?_⟩
 ·obtain ⟨x, hx, hp, hev, hhas⟩ := hl.at_ (i := (i : Int)) (by omega) hlt
  rw [Int.toNat_natCast] at hx
  have hil : i < l.length := by omega
  obtain ⟨k, at', job, due, att, run, why, whn⟩ := x
  have c := hev
  obtain ⟨c1, c2, c3, c4, c5, c6, c7, c8⟩ := c
  simp only at c1 c2 c3 c4 c5 c6 c7 c8
  refine ⟨by omega, hp, hhas, k, c1.1, c1.2, at', c2.1, c2.2, job, c3.1, c3.2, due, c4.1, c4.2, att, c5.1, c5.2, run, c6.1, c6.2, why, c7.1, c7.2, whn, c8.1, c8.2, trivial, ?_⟩
  intro m2 hm2 e he1 he2 hev2
  have hE : e = evP ⟨k, at', job, due, att, run, why, whn⟩ := hev2
  generalize hX : (⟨k, at', job, due, att, run, why, whn⟩ : Ev) = X at *
  have hk : X.kind = k := by rw [← hX]
  have hat : X.at_ = at' := by rw [← hX]
  have hjob : X.job = job := by rw [← hX]
  have hdue : X.due = due := by rw [← hX]
  have hatt : X.attempt = att := by rw [← hX]
  have hrun : X.run = run := by rw [← hX]
  have hdrop : l.drop i = X :: l.drop (i + 1) := by
   rw [List.drop_eq_getElem_cons hil]
   rw [List.getElem?_eq_getElem hil] at hx
   rw [Option.some.inj hx]
  have htake : l.take (i + 1) = l.take i ++ [X] := by
   rw [← List.take_append_getElem hil]
   rw [List.getElem?_eq_getElem hil] at hx
   rw [Option.some.inj hx]
  have hpl : ((l.take i).length : Int) = i := by rw [List.length_take]; omega
  have stop : ∀ e : Int, K.i64 e → evErr jobs (l.take i) X = e → e ≠ 0 → (K.i64 (i : Int)) ∧ (K.i64 e) ∧ tChk_post p n c jobs m2 i e := fun e hK h1 h2 => by
   refine ⟨k64 (by omega) (by omega), hK, ps m2 _ _ hm2 ?_⟩
   rw [eT, hgo, hdrop, trcGo, h1, if_pos h2, hpl]
  have again : ∀ (lr : Int) (r : List Value), K.i64 lr → evErr jobs (l.take i) X = 0 → Poss (l.take i) X → lr = lastR (l.take i ++ [X]) → r = (und (l.take i ++ [X])).map encE →
    (K.i64 x3) ∧ (K.i64 x4) ∧ (K.i64 lr) ∧ (IntKind.i64.min ≤ ((i : Int) + 1) ∧ ((i : Int) + 1) ≤ IntKind.i64.max) ∧
    ((∃ i' : Nat, (i : Int) + 1 = i' ∧ i' ≤ l.length ∧ trcGo jobs [] l = trcGo jobs (l.take i') (l.drop i') ∧ lr = lastR (l.take i') ∧ r = (und (l.take i')).map encE ∧ As.Trace (l.take i')) ∧ ((n : Int) - ((i : Int) + 1)).toNat < ((n : Int) - (i : Int)).toNat) := fun lr r hK h1 hpo h2 h3 => by
   refine ⟨⟨a3, b3⟩, ⟨a4, b4⟩, hK, k64 (by omega) (by omega), ⟨i + 1, by omega, by omega, ?_, by rw [htake]; exact h2, by rw [htake]; exact h3, by rw [htake]; exact As.Trace.snoc htr hpo⟩, by omega⟩
   rw [hgo, hdrop, trcGo, if_neg (by rw [h1]; simp), htake]
  have k8 : K.i64 8 := by constructor <;> decide
  have hlast := last_len htr
  have hinv := trace_inv htr
  have hK5 : K.i64 (lastR (l.take i)) := ⟨a5, b5⟩
  have hi1 : (i : Int) + 1 ≤ 9223372036854775807 := by omega
  -- the run's part
  have launch : k = 1 → evErr jobs (l.take i) X = evRun (l.take i) X → (run ≠ lastR (l.take i) + 1 → evErr jobs (l.take i) X = 8) ∧ (run = lastR (l.take i) + 1 → evErr jobs (l.take i) X = 0 ∧ Poss (l.take i) X ∧ run = lastR (l.take i ++ [X]) ∧ mFind (.int .i64 run) ((und (l.take i)).map encE) 0 = some none ∧ (und (l.take i)).map encE ++ [encE X] = (und (l.take i ++ [X])).map encE) := fun hk1 he => by
   rw [he]
   unfold evRun
   rw [hk, if_pos hk1, hrun]
   refine ⟨fun h => by rw [if_pos h], fun h => ⟨by rw [if_neg (by omega)], ⟨fun _ => by rw [hrun]; exact h, fun he => ?_⟩, ?_, ?_, ?_⟩⟩
   ·simp only [isEnd, hk, hk1] at he; simp at he
   ·rw [last_snoc, hk, if_pos hk1, hrun]
   ·refine mf_none run _ 0 fun u hu => ?_
    have := hinv.2.2 u hu
    omega
   ·rw [und_snoc]; unfold undS; rw [hk, if_pos hk1]; simp
  have other : k ≠ 1 → k ≠ 2 → k ≠ 3 → evErr jobs (l.take i) X = evRun (l.take i) X → evErr jobs (l.take i) X = 0 ∧ Poss (l.take i) X ∧ lastR (l.take i) = lastR (l.take i ++ [X]) ∧ (und (l.take i)).map encE = (und (l.take i ++ [X])).map encE := fun g1 g2 g3 he => by
   have hne : isEnd X = false := by simp [isEnd, hk, g2, g3]
   rw [he]
   unfold evRun
   rw [hk, if_neg g1, if_neg (by rw [hne]; simp)]
   refine ⟨rfl, ⟨fun h => (g1 (by rw [← hk]; exact h)).elim, fun h => by rw [hne] at h; cases h⟩, ?_, ?_⟩
   ·rw [last_snoc, hk, if_neg g1]
   ·rw [und_snoc]; unfold undS; rw [hk, if_neg g1, if_neg (by rw [hne]; simp)]
  have fin : (k = 2 ∨ k = 3) → evErr jobs (l.take i) X = evRun (l.take i) X → ∃ f : Option (Nat × Value), mFind (.int .i64 run) ((und (l.take i)).map encE) 0 = some f ∧ ∀ b0 : Bool, b0 = mIs f → ∃ r2 : List Value, mHas true f [.int .i64 0, .int .i64 0, .int .i64 0, .int .i64 0, .int .i64 0, .int .i64 0, .int .i64 0, .int .i64 0] r2 ∧
    (b0 = false → evErr jobs (l.take i) X = 8) ∧ (b0 = true → ∃ y1, rowI r2 2 = some (.int .i64 y1) ∧ K.i64 y1 ∧ (y1 ≠ job → evErr jobs (l.take i) X = 8) ∧ (y1 = job → ∃ y2, rowI r2 3 = some (.int .i64 y2) ∧ K.i64 y2 ∧ (y2 ≠ due → evErr jobs (l.take i) X = 8) ∧ (y2 = due → ∃ y3, rowI r2 4 = some (.int .i64 y3) ∧ K.i64 y3 ∧
     (y3 ≠ att → evErr jobs (l.take i) X = 8) ∧ (y3 = att → evErr jobs (l.take i) X = 0 ∧ Poss (l.take i) X ∧ lastR (l.take i) = lastR (l.take i ++ [X]) ∧ mDel f ((und (l.take i)).map encE) = (und (l.take i ++ [X])).map encE)))) := fun hk23 he => by
   have hend : isEnd X = true := by rcases hk23 with h | h <;> simp [isEnd, hk, h]
   have hk1 : k ≠ 1 := by omega
   have eR : evErr jobs (l.take i) X = if (und (l.take i)).any (evMatch X) = true then 0 else 8 := by
    rw [he]; unfold evRun; rw [hk, if_neg hk1, if_pos hend]
   by_cases hu : ∃ u ∈ und (l.take i), u.run = run
   ·obtain ⟨u, hu1, hu2⟩ := hu
    obtain ⟨j, f1, f2⟩ := mf_some run _ 0 u hinv.2.1 hu1 hu2
    have hany := any_of X (und (l.take i)) u hinv.2.1 hu1 (by rw [hrun]; exact hu2)
    rw [hany] at eR
    have hul : u ∈ l := List.mem_of_mem_take (und_sub _ u hu1)
    obtain ⟨ju, hju⟩ := List.getElem?_of_mem hul
    have hue := hl.2 ju u hju
    refine ⟨_, f1, fun b0 hb0 => ⟨evCells u, ⟨rfl, by simp [evCells, oneV], rfl⟩, (fun h => by rw [hb0] at h; cases h), fun _ => ⟨u.job, rfl, hue.2.2.1.2, fun h => ?_, fun e1 => ⟨u.due, rfl, hue.2.2.2.1.2, fun h => ?_, fun e2 => ⟨u.attempt, rfl, hue.2.2.2.2.1.2, fun h => ?_, fun e3 => ?_⟩⟩⟩⟩⟩
    ·rw [eR, if_neg (by rw [hjob]; simp [h])]
    ·rw [eR, if_neg (by rw [hdue]; simp [h])]
    ·rw [eR, if_neg (by rw [hatt]; simp [h])]
    ·refine ⟨by rw [eR, if_pos (by rw [hjob, hdue, hatt]; simp [e1, e2, e3])], ⟨fun h => (hk1 (by rw [← hk]; exact h)).elim, fun _ => ⟨u, hu1, by rw [hrun]; exact hu2, by rw [hjob]; exact e1, by rw [hdue]; exact e2, by rw [hatt]; exact e3⟩⟩, ?_, ?_⟩
     ·rw [last_snoc, hk, if_neg hk1]
     ·rw [und_snoc]; unfold undS; rw [hk, if_neg hk1, if_pos hend, hrun, ← f2]
      simp only [mDel, Nat.zero_add]
   ·have hno : ∀ u ∈ und (l.take i), u.run ≠ run := fun u h1 h2 => hu ⟨u, h1, h2⟩
    refine ⟨none, mf_none run _ 0 hno, fun b0 hb0 => ⟨_, ⟨rfl, by simp [oneV], rfl⟩, fun _ => ?_, fun h => by rw [hb0] at h; cases h⟩⟩
    rw [eR, if_neg]
    rw [Bool.not_eq_true, List.any_eq_false]
    intro z hz
    have := hno z hz
    have hb : (z.run == X.run) = false := by rw [hrun]; simp; omega
    simp [evMatch, hb]
  have toRun : e = 0 → (k ≠ 6 → job < jobs) → backw (l.take i) X = false → evErr jobs (l.take i) X = evRun (l.take i) X := fun g1 g2 g3 => by
   unfold evErr
   rw [if_neg (by rw [← hE, g1]; simp), if_neg (by rw [hk, hjob]; intro h; have := g2 h.1; omega), if_neg (by rw [g3]; simp)]
  have toBack : e = 0 → (k ≠ 6 → job < jobs) → backw (l.take i) X = true → evErr jobs (l.take i) X = 8 := fun g1 g2 g3 => by
   unfold evErr
   rw [if_neg (by rw [← hE, g1]; simp), if_neg (by rw [hk, hjob]; intro h; have := g2 h.1; omega), if_pos g3]
  have bw0 : i = 0 → backw (l.take i) X = false := fun h => by subst h; rfl
  have bw : 0 < i → ∃ y, IntAt m2 p (0 + ((i : Int) - 1) * 8 + 1) y ∧ backw (l.take i) X = decide (at' < y) := fun h => by
   have hy : l[i - 1]? = some (l[i - 1]'(by omega)) := List.getElem?_eq_getElem (by omega)
   have hc := (hl.sub hm2).2 (i - 1) _ hy
   refine ⟨(l[i - 1]'(by omega)).at_, ?_, ?_⟩
   ·have := hc.2.1
    rw [show ((i - 1 : Nat) : Int) * 8 + 1 = 0 + ((i : Int) - 1) * 8 + 1 by omega] at this
    exact this
   ·rcases backw_take (l := l) (i := i) (x := X) with h1 | h1
    ·rw [h1, hy]; simp [h, hat]
    ·omega
  refine ⟨fun h => stop e ⟨he1, he2⟩ (by unfold evErr; rw [if_pos (by rw [← hE]; exact h), hE]) h, fun he0 => ⟨fun hk6 => ⟨fun hjj => stop 3 (by constructor <;> decide) (by unfold evErr; rw [if_neg (by rw [← hE, he0]; simp), if_pos ⟨by rw [hk]; exact hk6, by rw [hjob]; exact hjj⟩]) (by decide), fun hjj => ⟨fun hi0 => ?_, fun hi0 => ?_⟩⟩, fun hk6 => ⟨fun hi0 => ?_, fun hi0 => ?_⟩⟩⟩
  ·obtain ⟨y, hy1, hy2⟩ := bw (by omega)
   refine ⟨by omega, hp, hy1.has, y, hy1.1, hy1.2, fun hlt => stop 8 k8 (toBack he0 (fun _ => hjj) (by rw [hy2]; simp [hlt])) (by decide), fun hle => ?_⟩
   have hr := toRun he0 (fun _ => hjj) (by rw [hy2]; simp; omega)
   refine ⟨fun hk1 => ?_, fun hk1 => ⟨fun hk2 => ?_, fun hk2 => ⟨fun hk3 => ?_, fun hk3 => ?_⟩⟩⟩
   ·obtain ⟨g1, g2⟩ := launch hk1 hr
    refine ⟨by omega, fun h => stop 8 k8 (g1 h) (by decide), fun h => ⟨none, (g2 h).2.2.2.1, fun r2 hr2 => ⟨hi1, again _ _ c6.2 (g2 h).1 (g2 h).2.1 (g2 h).2.2.1 ?_⟩⟩⟩
    rw [hr2, ← (g2 h).2.2.2.2]; rw [← hX]; rfl
   ·obtain ⟨f, f1, f2⟩ := fin (.inl hk2) hr
    refine ⟨f, f1, fun b0 hb0 => ?_⟩
    obtain ⟨r2, q1, q2, q3⟩ := f2 b0 hb0
    refine ⟨r2, q1, fun h => stop 8 k8 (q2 h) (by decide), fun h => ?_⟩
    obtain ⟨y1, s1, s2, s3, s4⟩ := q3 h
    refine ⟨y1, s1, s2, fun h => stop 8 k8 (s3 h) (by decide), fun h => ?_⟩
    obtain ⟨y2, s1, s2, s3, s4⟩ := s4 h
    refine ⟨y2, s1, s2, fun h => stop 8 k8 (s3 h) (by decide), fun h => ?_⟩
    obtain ⟨y3, s1, s2, s3, s4⟩ := s4 h
    refine ⟨y3, s1, s2, fun h => stop 8 k8 (s3 h) (by decide), fun h => ?_⟩
    obtain ⟨s5, s6, s7, s8⟩ := s4 h
    exact ⟨f, f1, fun r3 hr3 => ⟨hi1, again _ _ hK5 s5 s6 s7 (by rw [hr3, s8])⟩⟩
   ·obtain ⟨f, f1, f2⟩ := fin (.inr hk3) hr
    refine ⟨f, f1, fun b0 hb0 => ?_⟩
    obtain ⟨r2, q1, q2, q3⟩ := f2 b0 hb0
    refine ⟨r2, q1, fun h => stop 8 k8 (q2 h) (by decide), fun h => ?_⟩
    obtain ⟨y1, s1, s2, s3, s4⟩ := q3 h
    refine ⟨y1, s1, s2, fun h => stop 8 k8 (s3 h) (by decide), fun h => ?_⟩
    obtain ⟨y2, s1, s2, s3, s4⟩ := s4 h
    refine ⟨y2, s1, s2, fun h => stop 8 k8 (s3 h) (by decide), fun h => ?_⟩
    obtain ⟨y3, s1, s2, s3, s4⟩ := s4 h
    refine ⟨y3, s1, s2, fun h => stop 8 k8 (s3 h) (by decide), fun h => ?_⟩
    obtain ⟨s5, s6, s7, s8⟩ := s4 h
    exact ⟨f, f1, fun r3 hr3 => ⟨hi1, again _ _ hK5 s5 s6 s7 (by rw [hr3, s8])⟩⟩
   ·obtain ⟨s5, s6, s7, s8⟩ := other hk1 hk2 hk3 hr
    exact ⟨hi1, again _ _ hK5 s5 s6 s7 s8⟩
  ·have hr := toRun he0 (fun _ => hjj) (bw0 (by omega))
   refine ⟨fun hk1 => ?_, fun hk1 => ⟨fun hk2 => ?_, fun hk2 => ⟨fun hk3 => ?_, fun hk3 => ?_⟩⟩⟩
   ·obtain ⟨g1, g2⟩ := launch hk1 hr
    refine ⟨by omega, fun h => stop 8 k8 (g1 h) (by decide), fun h => ⟨none, (g2 h).2.2.2.1, fun r2 hr2 => again _ _ c6.2 (g2 h).1 (g2 h).2.1 (g2 h).2.2.1 ?_⟩⟩
    rw [hr2, ← (g2 h).2.2.2.2]; rw [← hX]; rfl
   ·obtain ⟨f, f1, f2⟩ := fin (.inl hk2) hr
    refine ⟨f, f1, fun b0 hb0 => ?_⟩
    obtain ⟨r2, q1, q2, q3⟩ := f2 b0 hb0
    refine ⟨r2, q1, fun h => stop 8 k8 (q2 h) (by decide), fun h => ?_⟩
    obtain ⟨y1, s1, s2, s3, s4⟩ := q3 h
    refine ⟨y1, s1, s2, fun h => stop 8 k8 (s3 h) (by decide), fun h => ?_⟩
    obtain ⟨y2, s1, s2, s3, s4⟩ := s4 h
    refine ⟨y2, s1, s2, fun h => stop 8 k8 (s3 h) (by decide), fun h => ?_⟩
    obtain ⟨y3, s1, s2, s3, s4⟩ := s4 h
    refine ⟨y3, s1, s2, fun h => stop 8 k8 (s3 h) (by decide), fun h => ?_⟩
    obtain ⟨s5, s6, s7, s8⟩ := s4 h
    exact ⟨f, f1, fun r3 hr3 => again _ _ hK5 s5 s6 s7 (by rw [hr3, s8])⟩
   ·obtain ⟨f, f1, f2⟩ := fin (.inr hk3) hr
    refine ⟨f, f1, fun b0 hb0 => ?_⟩
    obtain ⟨r2, q1, q2, q3⟩ := f2 b0 hb0
    refine ⟨r2, q1, fun h => stop 8 k8 (q2 h) (by decide), fun h => ?_⟩
    obtain ⟨y1, s1, s2, s3, s4⟩ := q3 h
    refine ⟨y1, s1, s2, fun h => stop 8 k8 (s3 h) (by decide), fun h => ?_⟩
    obtain ⟨y2, s1, s2, s3, s4⟩ := s4 h
    refine ⟨y2, s1, s2, fun h => stop 8 k8 (s3 h) (by decide), fun h => ?_⟩
    obtain ⟨y3, s1, s2, s3, s4⟩ := s4 h
    refine ⟨y3, s1, s2, fun h => stop 8 k8 (s3 h) (by decide), fun h => ?_⟩
    obtain ⟨s5, s6, s7, s8⟩ := s4 h
    exact ⟨f, f1, fun r3 hr3 => again _ _ hK5 s5 s6 s7 (by rw [hr3, s8])⟩
   ·obtain ⟨s5, s6, s7, s8⟩ := other hk1 hk2 hk3 hr
    exact again _ _ hK5 s5 s6 s7 s8
  ·obtain ⟨y, hy1, hy2⟩ := bw (by omega)
   refine ⟨by omega, hp, hy1.has, y, hy1.1, hy1.2, fun hlt => stop 8 k8 (toBack he0 (fun h => (h hk6).elim) (by rw [hy2]; simp [hlt])) (by decide), fun hle => ?_⟩
   have hr := toRun he0 (fun h => (h hk6).elim) (by rw [hy2]; simp; omega)
   obtain ⟨s5, s6, s7, s8⟩ := other (by omega) (by omega) (by omega) hr
   exact ⟨hi1, again _ _ hK5 s5 s6 s7 s8⟩
  ·have hr := toRun he0 (fun h => (h hk6).elim) (bw0 (by omega))
   obtain ⟨s5, s6, s7, s8⟩ := other (by omega) (by omega) (by omega) hr
   exact again _ _ hK5 s5 s6 s7 s8
 ·refine ⟨by constructor <;> decide, by constructor <;> decide, ps m _ _ (memSub_refl m) ?_⟩
  rw [eT, hgo, List.drop_eq_nil_of_le (by omega)]
  rfl
theorem tChk_ok : SpOk Tryz.prog tChk :=
 con_ok (sps_of [evCheck] ⟨evCheck_ok, trivial⟩ rfl) (tab_okM _ [⟨(113, 4), [], [], [], [1]⟩] [116]) 1000 tChk _ rfl rfl (Eq.mp (show tChk_VC = _ by kernel_rfl) tChk_vc)
end Go.Proofs.YtjabmipkllkfbaaGreatDoor.Vc
