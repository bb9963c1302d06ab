/-
  Contracts, by their trees.
-/
import Derived.Test.YtjabmipkllkfbaaGreatDoorYK
set_option linter.unusedVariables false
set_option linter.unusedSimpArgs false
namespace Go.Proofs.YtjabmipkllkfbaaGreatDoor.Vc
def fullE (i : Int) : Int := if i = 0 ∨ i = 1 then 1152921504606846975 else if i = 2 then 16777215 else if i = 3 then 4294967294 else if i = 4 then 8190 else 127
def eFull_pre (i : Int) (m : Mem) : Prop := Globs m glSp ∧ 0 ≤ i ∧ i ≤ 5
def eFull_post (i : Int) (m : Mem) (z : Int) : Prop := z = fullE i
def eFull : Sp := { args := [.i .i64], grp := [none], res := [.i .u64], rgrp := [none], fn := 180, spec := fun a0 => (eFull_pre a0, eFull_post a0) }
def eFull_VC : Prop := ∀ m : Mem, ∀ x0 : Int, mi ≤ x0 → x0 ≤ ma → eFull_pre x0 m →
 (0 ≤ x0 ∧ (x0 ≤ 5 ∧ ((x0 = 0 →
 ((K.u64 1152921504606846975) ∧ eFull_post x0 m 1152921504606846975)) ∧
 (x0 ≠ 0 →
 ((x0 = 1 →
 ((K.u64 1152921504606846975) ∧ eFull_post x0 m 1152921504606846975)) ∧
 (x0 ≠ 1 →
 ((x0 = 2 →
 ((K.u64 16777215) ∧ eFull_post x0 m 16777215)) ∧
 (x0 ≠ 2 →
 ((x0 = 3 →
 ((K.u64 4294967294) ∧ eFull_post x0 m 4294967294)) ∧
 (x0 ≠ 3 →
 ((x0 = 4 →
 ((K.u64 8190) ∧ eFull_post x0 m 8190)) ∧
 (x0 ≠ 4 →
 ((x0 = 5 →
 ((K.u64 127) ∧ eFull_post x0 m 127)) ∧
 (x0 ≠ 5 →
 False /- err 120 -/))))))))))))))
set_option maxHeartbeats 4000000 in
theorem eFull_vc : eFull_VC := by
 intro m x0 _ _ hp
 refine ⟨hp.2.1, hp.2.2, ?_⟩
 repeat' first | (refine And.intro ?_ ?_) | intro _
 all_goals first
  | (constructor <;> decide)
  | (subst_vars; rfl)
  | (have h1 := hp.2.1; have h2 := hp.2.2; omega)
theorem eFull_pg : ∀ m, forallF eFull.args eFull.spec fun r => r.1 m → GlobsAt m glSp := fun m a h => h.1.h
theorem eFull_ok : SpOk Tryz.prog eFull :=
 con_okF glSp [.le (.lit 0) (.var 0), .le (.var 0) (.lit 5)] rfl (sps_of [] trivial rfl) (tab_ok _ []) 1000 eFull _ rfl rfl eFull_pg (Eq.mp (show eFull_VC = _ by kernel_rfl) eFull_vc)
def eChk_pre (a b c d e f : Int) (x y : Bool) (m : Mem) : Prop := Globs m glSp
def eChk_post (a b c d e f : Int) (x y : Bool) (m : Mem) (r : Int) : Prop := r = exprE a b c d e f x y
def eChk : Sp := { args := [.i .u64, .i .u64, .i .u64, .i .u64, .i .u64, .i .u64, .b, .b], grp := [some 8], res := [.i .i64], rgrp := [none], fn := 149, spec := fun a0 a1 a2 a3 a4 a5 a6 a7 => (eChk_pre a0 a1 a2 a3 a4 a5 a6 a7, eChk_post a0 a1 a2 a3 a4 a5 a6 a7) }
def eChk_VC : Prop := ∀ m : Mem, ∀ x0 : Int, IntKind.u64.min ≤ x0 → x0 ≤ IntKind.u64.max → ∀ x1 : Int, IntKind.u64.min ≤ x1 → x1 ≤ IntKind.u64.max → ∀ x2 : Int, IntKind.u64.min ≤ x2 → x2 ≤ IntKind.u64.max → ∀ x3 : Int, IntKind.u64.min ≤ x3 → x3 ≤ IntKind.u64.max → ∀ x4 : Int, IntKind.u64.min ≤ x4 → x4 ≤ IntKind.u64.max → ∀ x5 : Int, IntKind.u64.min ≤ x5 → x5 ≤ IntKind.u64.max → ∀ b0 : Bool, ∀ b1 : Bool, eChk_pre x0 x1 x2 x3 x4 x5 b0 b1 m →
 ((x0 = 0 →
 ((K.i64 16) ∧ eChk_post x0 x1 x2 x3 x4 x5 b0 b1 m 16)) ∧
 (x0 ≠ 0 →
 ((eFull_pre 0 m) ∧ ∀ m1 : Mem, MemSub m m1 → ∀ x6 : Int, IntKind.u64.min ≤ x6 → x6 ≤ IntKind.u64.max → eFull_post 0 m1 x6 →
 (arithP BinOp.andNot x6 ∧ ∀ x7 : Int, x7 = arithV BinOp.andNot IntKind.u64 x0 x6 → (K.u64 x7) ∧ ((x7 ≠ 0 →
 ((K.i64 16) ∧ eChk_post x0 x1 x2 x3 x4 x5 b0 b1 m1 16)) ∧
 (x7 = 0 →
 ((x1 = 0 →
 ((K.i64 16) ∧ eChk_post x0 x1 x2 x3 x4 x5 b0 b1 m1 16)) ∧
 (x1 ≠ 0 →
 ((eFull_pre 1 m1) ∧ ∀ m2 : Mem, MemSub m1 m2 → ∀ x8 : Int, IntKind.u64.min ≤ x8 → x8 ≤ IntKind.u64.max → eFull_post 1 m2 x8 →
 (arithP BinOp.andNot x8 ∧ ∀ x9 : Int, x9 = arithV BinOp.andNot IntKind.u64 x1 x8 → (K.u64 x9) ∧ ((x9 ≠ 0 →
 ((K.i64 16) ∧ eChk_post x0 x1 x2 x3 x4 x5 b0 b1 m2 16)) ∧
 (x9 = 0 →
 ((x2 = 0 →
 ((K.i64 16) ∧ eChk_post x0 x1 x2 x3 x4 x5 b0 b1 m2 16)) ∧
 (x2 ≠ 0 →
 ((eFull_pre 2 m2) ∧ ∀ m3 : Mem, MemSub m2 m3 → ∀ x10 : Int, IntKind.u64.min ≤ x10 → x10 ≤ IntKind.u64.max → eFull_post 2 m3 x10 →
 (arithP BinOp.andNot x10 ∧ ∀ x11 : Int, x11 = arithV BinOp.andNot IntKind.u64 x2 x10 → (K.u64 x11) ∧ ((x11 ≠ 0 →
 ((K.i64 16) ∧ eChk_post x0 x1 x2 x3 x4 x5 b0 b1 m3 16)) ∧
 (x11 = 0 →
 ((x3 = 0 →
 ((K.i64 16) ∧ eChk_post x0 x1 x2 x3 x4 x5 b0 b1 m3 16)) ∧
 (x3 ≠ 0 →
 ((eFull_pre 3 m3) ∧ ∀ m4 : Mem, MemSub m3 m4 → ∀ x12 : Int, IntKind.u64.min ≤ x12 → x12 ≤ IntKind.u64.max → eFull_post 3 m4 x12 →
 (arithP BinOp.andNot x12 ∧ ∀ x13 : Int, x13 = arithV BinOp.andNot IntKind.u64 x3 x12 → (K.u64 x13) ∧ ((x13 ≠ 0 →
 ((K.i64 16) ∧ eChk_post x0 x1 x2 x3 x4 x5 b0 b1 m4 16)) ∧
 (x13 = 0 →
 ((x4 = 0 →
 ((K.i64 16) ∧ eChk_post x0 x1 x2 x3 x4 x5 b0 b1 m4 16)) ∧
 (x4 ≠ 0 →
 ((eFull_pre 4 m4) ∧ ∀ m5 : Mem, MemSub m4 m5 → ∀ x14 : Int, IntKind.u64.min ≤ x14 → x14 ≤ IntKind.u64.max → eFull_post 4 m5 x14 →
 (arithP BinOp.andNot x14 ∧ ∀ x15 : Int, x15 = arithV BinOp.andNot IntKind.u64 x4 x14 → (K.u64 x15) ∧ ((x15 ≠ 0 →
 ((K.i64 16) ∧ eChk_post x0 x1 x2 x3 x4 x5 b0 b1 m5 16)) ∧
 (x15 = 0 →
 ((x5 = 0 →
 ((K.i64 16) ∧ eChk_post x0 x1 x2 x3 x4 x5 b0 b1 m5 16)) ∧
 (x5 ≠ 0 →
 ((eFull_pre 5 m5) ∧ ∀ m6 : Mem, MemSub m5 m6 → ∀ x16 : Int, IntKind.u64.min ≤ x16 → x16 ≤ IntKind.u64.max → eFull_post 5 m6 x16 →
 (arithP BinOp.andNot x16 ∧ ∀ x17 : Int, x17 = arithV BinOp.andNot IntKind.u64 x5 x16 → (K.u64 x17) ∧ ((x17 ≠ 0 →
 ((K.i64 16) ∧ eChk_post x0 x1 x2 x3 x4 x5 b0 b1 m6 16)) ∧
 (x17 = 0 →
 ((b0 = true →
 ((eFull_pre 3 m6) ∧ ∀ m7 : Mem, MemSub m6 m7 → ∀ x18 : Int, IntKind.u64.min ≤ x18 → x18 ≤ IntKind.u64.max → eFull_post 3 m7 x18 →
 ((x3 ≠ x18 →
 ((K.i64 16) ∧ eChk_post x0 x1 x2 x3 x4 x5 b0 b1 m7 16)) ∧
 (x3 = x18 →
 ((b1 = true →
 ((eFull_pre 5 m7) ∧ ∀ m8 : Mem, MemSub m7 m8 → ∀ x19 : Int, IntKind.u64.min ≤ x19 → x19 ≤ IntKind.u64.max → eFull_post 5 m8 x19 →
 ((x5 ≠ x19 →
 ((K.i64 16) ∧ eChk_post x0 x1 x2 x3 x4 x5 b0 b1 m8 16)) ∧
 (x5 = x19 →
 ((K.i64 0) ∧ eChk_post x0 x1 x2 x3 x4 x5 b0 b1 m8 0))))) ∧
 (b1 = false →
 ((K.i64 0) ∧ eChk_post x0 x1 x2 x3 x4 x5 b0 b1 m7 0))))))) ∧
 (b0 = false →
 ((b1 = true →
 ((eFull_pre 5 m6) ∧ ∀ m7 : Mem, MemSub m6 m7 → ∀ x18 : Int, IntKind.u64.min ≤ x18 → x18 ≤ IntKind.u64.max → eFull_post 5 m7 x18 →
 ((x5 ≠ x18 →
 ((K.i64 16) ∧ eChk_post x0 x1 x2 x3 x4 x5 b0 b1 m7 16)) ∧
 (x5 = x18 →
 ((K.i64 0) ∧ eChk_post x0 x1 x2 x3 x4 x5 b0 b1 m7 0))))) ∧
 (b1 = false →
 ((K.i64 0) ∧ eChk_post x0 x1 x2 x3 x4 x5 b0 b1 m6 0)))))))))))))))))))))))))))))))))))))))))
set_option maxHeartbeats 4000000 in
theorem eChk_vc : eChk_VC := by
 intro m x0 h00 h01 x1 h10 h11 x2 h20 h21 x3 h30 h31 x4 h40 h41 x5 h50 h51 b0 b1 hp
 have a0 := andNot_iff (f := 1152921504606846975) h00 h01
 have a1 := andNot_iff (f := 1152921504606846975) h10 h11
 have a2 := andNot_iff (f := 16777215) h20 h21
 have a3 := andNot_iff (f := 4294967294) h30 h31
 have a4 := andNot_iff (f := 8190) h40 h41
 have a5 := andNot_iff (f := 127) h50 h51
 simp only [forall_eq]
 repeat' first | (refine And.intro ?_ ?_) | intro _
 all_goals first
  | trivial
  | (constructor <;> decide)
  | assumption
  | exact (wrap_rng _ _).1
  | exact (wrap_rng _ _).2
  | (repeat (first | exact hp | refine Globs.sub (by assumption) ?_)
     done)
  | omega
  | (simp only [eChk_post]; simp_all [eFull_post, fullE, exprE, fldOk]; done)
  | (simp only [eFull_post, fullE] at *; simp only [Int.reduceEq, or_self, or_true, true_or, or_false, false_or, if_true, if_false, reduceIte] at *; subst_vars; simp_all [eChk_post, exprE, fldOk]; done)
theorem eChk_ok : SpOk Tryz.prog eChk :=
 con_ok (sps_of [eFull] ⟨eFull_ok, trivial⟩ rfl) (tab_ok _ []) 1000 eChk _ rfl rfl (Eq.mp (show eChk_VC = _ by kernel_rfl) eChk_vc)
end Go.Proofs.YtjabmipkllkfbaaGreatDoor.Vc
