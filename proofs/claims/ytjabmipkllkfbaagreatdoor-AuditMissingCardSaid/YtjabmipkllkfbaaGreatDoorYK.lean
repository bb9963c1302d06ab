/-
  Contracts, by their trees.
-/
import Derived.Test.YtjabmipkllkfbaaGreatDoorYJ
import Derived.Test.YtjabmipkllkfbaaGreatDoorYG
set_option linter.unusedVariables false
set_option linter.unusedSimpArgs false
namespace Go.Proofs.YtjabmipkllkfbaaGreatDoor.Vc
theorem bv_and_not (x f : BitVec 64) : x &&& ~~~f = 0#64 ↔ x &&& f = x := by
 constructor
 ·intro h
  apply BitVec.eq_of_getLsbD_eq
  intro i hi
  have := congrArg (fun v => v.getLsbD i) h
  simp only [BitVec.getLsbD_and, BitVec.getLsbD_not, BitVec.getLsbD_zero, hi, decide_true, Bool.true_and] at this
  simp only [BitVec.getLsbD_and]
  cases hx : x.getLsbD i <;> cases hf : f.getLsbD i <;> simp_all
 ·intro h
  apply BitVec.eq_of_getLsbD_eq
  intro i hi
  have := congrArg (fun v => v.getLsbD i) h
  simp only [BitVec.getLsbD_and] at this
  simp only [BitVec.getLsbD_and, BitVec.getLsbD_not, BitVec.getLsbD_zero, hi, decide_true, Bool.true_and]
  cases hx : x.getLsbD i <;> cases hf : f.getLsbD i <;> simp_all
theorem wrap64 (v : BitVec 64) : IntKind.u64.wrap (v.toNat : Int) = (v.toNat : Int) := wrap_id (by simp [IntKind.min, IntKind.signed]) (by have := v.isLt; simp only [show IntKind.u64.max = 18446744073709551615 from rfl]; omega)
theorem andNot_iff {x f : Int} (h0 : IntKind.u64.min ≤ x) (h1 : x ≤ IntKind.u64.max) : arithV .andNot .u64 x f = 0 ↔ arithV .and .u64 x f = x := by
 simp only [show IntKind.u64.min = 0 from rfl, show IntKind.u64.max = 18446744073709551615 from rfl] at h0 h1
 have e1 : arithV .andNot .u64 x f = ((BitVec.ofInt 64 x &&& ~~~(BitVec.ofInt 64 f)).toNat : Int) := wrap64 _
 have e2 : arithV .and .u64 x f = ((BitVec.ofInt 64 x &&& BitVec.ofInt 64 f).toNat : Int) := wrap64 _
 have e3 : (x : Int) = ((BitVec.ofInt 64 x).toNat : Int) := by rw [BitVec.toNat_ofInt]; omega
 rw [e1, e2]
 constructor
 ·intro h
  have : BitVec.ofInt 64 x &&& ~~~(BitVec.ofInt 64 f) = 0#64 := BitVec.eq_of_toNat_eq (by simpa using h)
  rw [(bv_and_not _ _).1 this]; exact e3.symm
 ·intro h
  have : BitVec.ofInt 64 x &&& BitVec.ofInt 64 f = BitVec.ofInt 64 x := BitVec.eq_of_toNat_eq (by omega)
  rw [(bv_and_not _ _).2 this]; rfl
theorem wrap_rng (k : IntKind) (n : Int) : k.min ≤ k.wrap n ∧ k.wrap n ≤ k.max := by
 cases k <;> simp [IntKind.min, IntKind.max, IntKind.wrap, IntKind.signed, IntKind.bits] <;> omega
def fldOk (x f : Int) : Bool := decide (x ≠ 0) && decide (arithV .and .u64 x f = x)
def exprE (a b c d e f : Int) (day week : Bool) : Int :=
 if (fldOk a 1152921504606846975 && fldOk b 1152921504606846975 && fldOk c 16777215 && fldOk d 4294967294 && fldOk e 8190 && fldOk f 127 && (!day || decide (d = 4294967294)) && (!week || decide (f = 127))) = true then 0 else 16
def zoneE (z : Int) : Int := if z < -840 ∨ 840 < z then 2 else 0
def gloE (a b c d t u : Int) : Int := if a < 1 ∨ 1000 < a ∨ b < 1 ∨ 1024 < b ∨ c < 0 ∨ 4096 < c ∨ d < 1 ∨ 68719476736 < d ∨ As.limP ⟨t, u⟩ ≠ 0 then 16 else 0
def zChk_pre (z : Int) (m : Mem) : Prop := True
def zChk_post (z : Int) (m : Mem) (r : Int) : Prop := r = zoneE z
def zChk : Sp := { args := [.i .i64], grp := [none], res := [.i .i64], rgrp := [none], fn := 150, spec := fun a0 => (zChk_pre a0, zChk_post a0) }
def zChk_VC : Prop := ∀ m : Mem, ∀ x0 : Int, mi ≤ x0 → x0 ≤ ma → zChk_pre x0 m →
 ((x0 < (-840 : Int) →
 ((K.i64 2) ∧ zChk_post x0 m 2)) ∧
 ((-840 : Int) ≤ x0 →
 ((840 < x0 →
 ((K.i64 2) ∧ zChk_post x0 m 2)) ∧
 (x0 ≤ 840 →
 ((K.i64 0) ∧ zChk_post x0 m 0)))))
set_option maxHeartbeats 4000000 in
theorem zChk_vc : zChk_VC := by
 intro m x0 _ _ _
 repeat' first | (refine And.intro ?_ ?_) | intro _
 all_goals first
  | (constructor <;> decide)
  | (simp only [zChk_post, zoneE]; first | rw [if_pos (by omega)] | rw [if_neg (by omega)])
theorem zChk_ok : SpOk Tryz.prog zChk :=
 con_ok (sps_of [] trivial rfl) (tab_ok _ []) 1000 zChk _ rfl rfl (Eq.mp (show zChk_VC = _ by kernel_rfl) zChk_vc)
def gChk_pre (a b c d s t u : Int) (m : Mem) : Prop := True
def gChk_post (a b c d s t u : Int) (m : Mem) (r : Int) : Prop := r = gloE a b c d t u
def gChk : Sp := { args := [.i .i64, .i .i64, .i .i64, .i .i64, .i .u64, .i .i64, .i .i64], grp := [some 7], res := [.i .i64], rgrp := [none], fn := 53, spec := fun a0 a1 a2 a3 a4 a5 a6 => (gChk_pre a0 a1 a2 a3 a4 a5 a6, gChk_post a0 a1 a2 a3 a4 a5 a6) }
def gChk_VC : Prop := ∀ m : Mem, ∀ x0 : Int, mi ≤ x0 → x0 ≤ ma → ∀ x1 : Int, mi ≤ x1 → x1 ≤ ma → ∀ x2 : Int, mi ≤ x2 → x2 ≤ ma → ∀ x3 : Int, mi ≤ x3 → x3 ≤ ma → ∀ x4 : Int, IntKind.u64.min ≤ x4 → x4 ≤ IntKind.u64.max → ∀ x5 : Int, mi ≤ x5 → x5 ≤ ma → ∀ x6 : Int, mi ≤ x6 → x6 ≤ ma → gChk_pre x0 x1 x2 x3 x4 x5 x6 m →
 ((1 ≤ x0 →
 ((x0 ≤ 1000 →
 ((1 ≤ x1 →
 ((x1 ≤ 1024 →
 ((0 ≤ x2 →
 ((x2 ≤ 4096 →
 ((1 ≤ x3 →
 ((x3 ≤ 68719476736 →
 ((pLim_pre x5 x6 m) ∧ ∀ m1 : Mem, MemSub m m1 → ∀ x7 : Int, mi ≤ x7 → x7 ≤ ma → pLim_post x5 x6 m1 x7 →
 ((x7 = 0 →
 ((K.i64 0) ∧ gChk_post x0 x1 x2 x3 x4 x5 x6 m1 0)) ∧
 (x7 ≠ 0 →
 ((K.i64 16) ∧ gChk_post x0 x1 x2 x3 x4 x5 x6 m1 16))))) ∧
 (68719476736 < x3 →
 ((K.i64 16) ∧ gChk_post x0 x1 x2 x3 x4 x5 x6 m 16)))) ∧
 (x3 < 1 →
 ((K.i64 16) ∧ gChk_post x0 x1 x2 x3 x4 x5 x6 m 16)))) ∧
 (4096 < x2 →
 ((K.i64 16) ∧ gChk_post x0 x1 x2 x3 x4 x5 x6 m 16)))) ∧
 (x2 < 0 →
 ((K.i64 16) ∧ gChk_post x0 x1 x2 x3 x4 x5 x6 m 16)))) ∧
 (1024 < x1 →
 ((K.i64 16) ∧ gChk_post x0 x1 x2 x3 x4 x5 x6 m 16)))) ∧
 (x1 < 1 →
 ((K.i64 16) ∧ gChk_post x0 x1 x2 x3 x4 x5 x6 m 16)))) ∧
 (1000 < x0 →
 ((K.i64 16) ∧ gChk_post x0 x1 x2 x3 x4 x5 x6 m 16)))) ∧
 (x0 < 1 →
 ((K.i64 16) ∧ gChk_post x0 x1 x2 x3 x4 x5 x6 m 16)))
set_option maxHeartbeats 4000000 in
theorem gChk_vc : gChk_VC := by
 intro m x0 _ _ x1 _ _ x2 _ _ x3 _ _ x4 _ _ x5 _ _ x6 _ _ _
 repeat' first | (refine And.intro ?_ ?_) | intro _
 all_goals first
  | trivial
  | (constructor <;> decide)
  | (simp only [gChk_post, gloE, pLim_post] at *; subst_vars; first | rw [if_pos (by omega)] | rw [if_neg (by omega)])
theorem gChk_ok : SpOk Tryz.prog gChk :=
 con_ok (sps_of [pLim] ⟨pLim_ok, trivial⟩ rfl) (tab_ok _ []) 1000 gChk _ rfl rfl (Eq.mp (show gChk_VC = _ by kernel_rfl) gChk_vc)
end Go.Proofs.YtjabmipkllkfbaaGreatDoor.Vc
