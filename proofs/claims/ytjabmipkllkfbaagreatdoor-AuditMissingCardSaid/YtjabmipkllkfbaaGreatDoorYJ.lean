/-
  Contracts, by their trees; Contracts, by their trees; Contracts, by their trees.
-/
import Derived.Test.YtjabmipkllkfbaaGreatDoorYH
import Derived.Test.YtjabmipkllkfbaaGreatDoorYG
set_option linter.unusedVariables false
set_option linter.unusedSimpArgs false
set_option maxHeartbeats 4000000
namespace Go.Proofs.YtjabmipkllkfbaaGreatDoor.Vc
def inI_pre (n lo hi : Int) (m : Mem) : Prop := True
def inI_post (n lo hi : Int) (m : Mem) (r : Bool) : Prop := r = As.inB n lo hi
def inI : Sp := { args := [.i .i64, .i .i64, .i .i64], grp := [none, none, none], res := [.b], rgrp := [none], fn := 116, spec := fun a0 a1 a2 => (inI_pre a0 a1 a2, inI_post a0 a1 a2) }
def inI_VC : Prop := ∀ m : Mem, ∀ x0 : Int, mi ≤ x0 → x0 ≤ ma → ∀ x1 : Int, mi ≤ x1 → x1 ≤ ma → ∀ x2 : Int, mi ≤ x2 → x2 ≤ ma → inI_pre x0 x1 x2 m →
 ((x1 ≤ x0 →
 (inI_post x0 x1 x2 m (decide (x0 ≤ x2)))) ∧
 (x0 < x1 →
 (inI_post x0 x1 x2 m false)))
theorem inI_vc : inI_VC := by
 intro m x0 _ _ x1 _ _ x2 _ _ _
 simp only [inI_post, As.inB]
 exact ⟨fun h => by simp [h], fun h => by simp; omega⟩
theorem inI_ok : SpOk Tryz.prog inI :=
 con_ok (sps_of [] trivial rfl) (tab_ok _ []) 1000 inI _ rfl rfl (Eq.mp (show inI_VC = _ by kernel_rfl) inI_vc)
def pLim_pre (t u : Int) (m : Mem) : Prop := True
def pLim_post (t u : Int) (m : Mem) (z : Int) : Prop := z = As.limP ⟨t, u⟩
def pLim : Sp := { args := [.i .i64, .i .i64], grp := [some 2], res := [.i .i64], rgrp := [none], fn := 76, spec := fun a0 a1 => (pLim_pre a0 a1, pLim_post a0 a1) }
def pLim_VC : Prop := ∀ m : Mem, ∀ x0 : Int, mi ≤ x0 → x0 ≤ ma → ∀ x1 : Int, mi ≤ x1 → x1 ≤ ma → pLim_pre x0 x1 m →
 ((in64_pre x0 0 68719476736 m) ∧ ∀ m1 : Mem, MemSub m m1 → ∀ b0 : Bool, in64_post x0 0 68719476736 m1 b0 →
 ((in64_pre x1 0 68719476736 m1) ∧ ∀ m2 : Mem, MemSub m1 m2 → ∀ b1 : Bool, in64_post x1 0 68719476736 m2 b1 →
 ((0 < x0 →
 ((b0 = false →
 ((K.i64 16) ∧ pLim_post x0 x1 m2 16)) ∧
 (b0 = true →
 ((b1 = false →
 ((K.i64 16) ∧ pLim_post x0 x1 m2 16)) ∧
 (b1 = true →
 ((K.i64 0) ∧ pLim_post x0 x1 m2 0)))))) ∧
 (x0 ≤ 0 →
 ((b0 = false →
 ((K.i64 16) ∧ pLim_post x0 x1 m2 16)) ∧
 (b0 = true →
 ((b1 = false →
 ((K.i64 16) ∧ pLim_post x0 x1 m2 16)) ∧
 (b1 = true →
 ((x1 ≠ 0 →
 ((K.i64 16) ∧ pLim_post x0 x1 m2 16)) ∧
 (x1 = 0 →
 ((K.i64 0) ∧ pLim_post x0 x1 m2 0)))))))))))
theorem pLim_vc : pLim_VC := by
 intro m x0 _ _ x1 _ _ _
 repeat' first | (refine And.intro ?_ ?_) | intro _
 all_goals first
  | trivial
  | (constructor <;> decide)
  | (simp_all [in64_post, pLim_post, As.limP, As.ruleE, As.inB, As.spanM]; try omega)
theorem pLim_ok : SpOk Tryz.prog pLim :=
 con_ok (sps_of [in64] ⟨in64_ok, trivial⟩ rfl) (tab_ok _ []) 1000 pLim _ rfl rfl (Eq.mp (show pLim_VC = _ by kernel_rfl) pLim_vc)
def pBrk_pre (a b c : Int) (m : Mem) : Prop := True
def pBrk_post (a b c : Int) (m : Mem) (z : Int) : Prop := z = As.brkP ⟨a, b, c⟩
def pBrk : Sp := { args := [.i .i64, .i .i64, .i .i64], grp := [some 3], res := [.i .i64], rgrp := [none], fn := 119, spec := fun a0 a1 a2 => (pBrk_pre a0 a1 a2, pBrk_post a0 a1 a2) }
def pBrk_VC : Prop := ∀ m : Mem, ∀ x0 : Int, mi ≤ x0 → x0 ≤ ma → ∀ x1 : Int, mi ≤ x1 → x1 ≤ ma → ∀ x2 : Int, mi ≤ x2 → x2 ≤ ma → pBrk_pre x0 x1 x2 m →
 (((x0 = 0 ∧ (x1 = 0 ∧ x2 = 0)) →
 ((K.i64 0) ∧ pBrk_post x0 x1 x2 m 0)) ∧
 ((x0 = 0 → (x1 = 0 → x2 ≠ 0)) →
 ((inI_pre x0 1 100 m) ∧ ∀ m1 : Mem, MemSub m m1 → ∀ b0 : Bool, inI_post x0 1 100 m1 b0 →
 ((in64_pre x1 1 68719476736 m1) ∧ ∀ m2 : Mem, MemSub m1 m2 → ∀ b1 : Bool, in64_post x1 1 68719476736 m2 b1 →
 ((inI_pre x2 1 100 m2) ∧ ∀ m3 : Mem, MemSub m2 m3 → ∀ b2 : Bool, inI_post x2 1 100 m3 b2 →
 ((b0 = false →
 ((K.i64 16) ∧ pBrk_post x0 x1 x2 m3 16)) ∧
 (b0 = true →
 ((b1 = false →
 ((K.i64 16) ∧ pBrk_post x0 x1 x2 m3 16)) ∧
 (b1 = true →
 ((b2 = false →
 ((K.i64 16) ∧ pBrk_post x0 x1 x2 m3 16)) ∧
 (b2 = true →
 ((K.i64 0) ∧ pBrk_post x0 x1 x2 m3 0))))))))))))
theorem pBrk_vc : pBrk_VC := by
 intro m x0 _ _ x1 _ _ x2 _ _ _
 repeat' first | (refine And.intro ?_ ?_) | intro _
 all_goals first
  | trivial
  | (constructor <;> decide)
  | (simp_all [in64_post, inI_post, pBrk_post, As.brkP, As.ruleE, As.inB, As.spanM]; try omega)
theorem pBrk_ok : SpOk Tryz.prog pBrk :=
 con_ok (sps_of [in64, inI] ⟨in64_ok, ⟨inI_ok, trivial⟩⟩ rfl) (tab_ok _ []) 1000 pBrk _ rfl rfl (Eq.mp (show pBrk_VC = _ by kernel_rfl) pBrk_vc)
def pRet_pre (a b c d : Int) (m : Mem) : Prop := True
def pRet_post (a b c d : Int) (m : Mem) (z : Int) : Prop := z = As.retP_ ⟨a, b, c, d⟩
def pRet : Sp := { args := [.i .i64, .i .i64, .i .i64, .i .i64], grp := [some 4], res := [.i .i64], rgrp := [none], fn := 120, spec := fun a0 a1 a2 a3 => (pRet_pre a0 a1 a2 a3, pRet_post a0 a1 a2 a3) }
def pRet_VC : Prop := ∀ m : Mem, ∀ x0 : Int, mi ≤ x0 → x0 ≤ ma → ∀ x1 : Int, mi ≤ x1 → x1 ≤ ma → ∀ x2 : Int, mi ≤ x2 → x2 ≤ ma → ∀ x3 : Int, mi ≤ x3 → x3 ≤ ma → pRet_pre x0 x1 x2 x3 m →
 (((x0 = 0 ∧ (x1 = 0 ∧ (x2 = 0 ∧ x3 = 0))) →
 ((K.i64 0) ∧ pRet_post x0 x1 x2 x3 m 0)) ∧
 ((x0 = 0 → (x1 = 0 → (x2 = 0 → x3 ≠ 0))) →
 ((inI_pre x0 1 20 m) ∧ ∀ m1 : Mem, MemSub m m1 → ∀ b0 : Bool, inI_post x0 1 20 m1 b0 →
 ((in64_pre x1 1 68719476736 m1) ∧ ∀ m2 : Mem, MemSub m1 m2 → ∀ b1 : Bool, in64_post x1 1 68719476736 m2 b1 →
 ((in64_pre x2 x1 68719476736 m2) ∧ ∀ m3 : Mem, MemSub m2 m3 → ∀ b2 : Bool, in64_post x2 x1 68719476736 m3 b2 →
 ((in64_pre x3 0 68719476736 m3) ∧ ∀ m4 : Mem, MemSub m3 m4 → ∀ b3 : Bool, in64_post x3 0 68719476736 m4 b3 →
 ((b0 = false →
 ((K.i64 16) ∧ pRet_post x0 x1 x2 x3 m4 16)) ∧
 (b0 = true →
 ((b1 = false →
 ((K.i64 16) ∧ pRet_post x0 x1 x2 x3 m4 16)) ∧
 (b1 = true →
 ((b2 = false →
 ((K.i64 16) ∧ pRet_post x0 x1 x2 x3 m4 16)) ∧
 (b2 = true →
 ((b3 = false →
 ((K.i64 16) ∧ pRet_post x0 x1 x2 x3 m4 16)) ∧
 (b3 = true →
 ((K.i64 0) ∧ pRet_post x0 x1 x2 x3 m4 0)))))))))))))))
theorem pRet_vc : pRet_VC := by
 intro m x0 _ _ x1 _ _ x2 _ _ x3 _ _ _
 repeat' first | (refine And.intro ?_ ?_) | intro _
 all_goals first
  | trivial
  | (constructor <;> decide)
  | (simp_all [in64_post, inI_post, pRet_post, As.retP_, As.ruleE, As.inB, As.spanM]; try omega)
theorem pRet_ok : SpOk Tryz.prog pRet :=
 con_ok (sps_of [in64, inI] ⟨in64_ok, ⟨inI_ok, trivial⟩⟩ rfl) (tab_ok _ []) 1000 pRet _ rfl rfl (Eq.mp (show pRet_VC = _ by kernel_rfl) pRet_vc)
def pMis_pre (a b : Int) (m : Mem) : Prop := True
def pMis_post (a b : Int) (m : Mem) (z : Int) : Prop := z = As.misP a b
def pMis : Sp := { args := [.i .i64, .i .i64], grp := [none, none], res := [.i .i64], rgrp := [none], fn := 118, spec := fun a0 a1 => (pMis_pre a0 a1, pMis_post a0 a1) }
def pMis_VC : Prop := ∀ m : Mem, ∀ x0 : Int, mi ≤ x0 → x0 ≤ ma → ∀ x1 : Int, mi ≤ x1 → x1 ≤ ma → pMis_pre x0 x1 m →
 ((x0 = 3 →
 ((inI_pre x1 1 100 m) ∧ ∀ m1 : Mem, MemSub m m1 → ∀ b0 : Bool, inI_post x1 1 100 m1 b0 →
 ((b0 = false →
 ((K.i64 16) ∧ pMis_post x0 x1 m1 16)) ∧
 (b0 = true →
 ((K.i64 0) ∧ pMis_post x0 x1 m1 0))))) ∧
 (x0 ≠ 3 →
 ((inI_pre x0 0 2 m) ∧ ∀ m1 : Mem, MemSub m m1 → ∀ b0 : Bool, inI_post x0 0 2 m1 b0 →
 ((b0 = false →
 ((K.i64 16) ∧ pMis_post x0 x1 m1 16)) ∧
 (b0 = true →
 ((x1 ≠ 0 →
 ((K.i64 16) ∧ pMis_post x0 x1 m1 16)) ∧
 (x1 = 0 →
 ((K.i64 0) ∧ pMis_post x0 x1 m1 0))))))))
theorem pMis_vc : pMis_VC := by
 intro m x0 _ _ x1 _ _ _
 repeat' first | (refine And.intro ?_ ?_) | intro _
 all_goals first
  | trivial
  | (constructor <;> decide)
  | (simp_all [in64_post, inI_post, pMis_post, As.misP, As.ruleE, As.inB, As.spanM]; try omega)
theorem pMis_ok : SpOk Tryz.prog pMis :=
 con_ok (sps_of [inI] ⟨inI_ok, trivial⟩ rfl) (tab_ok _ []) 1000 pMis _ rfl rfl (Eq.mp (show pMis_VC = _ by kernel_rfl) pMis_vc)
end Go.Proofs.YtjabmipkllkfbaaGreatDoor.Vc
namespace Go.Proofs.YtjabmipkllkfbaaGreatDoor.Vc
def evyE (a b c : Int) : Int := if a < 0 ∨ 253402300799 < a ∨ b < 1 ∨ 68719476736 < b ∨ c < 0 ∨ 1000000 < c then 16 else 0
def spE : List (Int × Int) → Int
 | [] => 0
 | (a, b) :: l => if As.timeB a = false ∨ As.timeB b = false then 14 else if b < a then 8 else spE l
def spansE (S : List (Int × Int)) : Int := if 64 < S.length then 12 else spE S
theorem spE_drop {S : List (Int × Int)} {i : Nat} {a b : Int} (h : S[i]? = some (a, b)) : S.drop i = (a, b) :: S.drop (i + 1) := by
 obtain ⟨hi, e⟩ := List.getElem?_eq_some_iff.1 h
 rw [List.drop_eq_getElem_cons hi, e]
def evyC_pre (a b c : Int) (m : Mem) : Prop := True
def evyC_post (a b c : Int) (m : Mem) (z : Int) : Prop := z = evyE a b c
def evyC : Sp := { args := [.i .i64, .i .i64, .i .i64], grp := [some 3], res := [.i .i64], rgrp := [none], fn := 158, spec := fun a0 a1 a2 => (evyC_pre a0 a1 a2, evyC_post a0 a1 a2) }
def evyC_VC : Prop := ∀ m : Mem, ∀ x0 : Int, mi ≤ x0 → x0 ≤ ma → ∀ x1 : Int, mi ≤ x1 → x1 ≤ ma → ∀ x2 : Int, mi ≤ x2 → x2 ≤ ma → evyC_pre x0 x1 x2 m →
 ((x0 < 0 →
 ((K.i64 16) ∧ evyC_post x0 x1 x2 m 16)) ∧
 (0 ≤ x0 →
 ((253402300799 < x0 →
 ((K.i64 16) ∧ evyC_post x0 x1 x2 m 16)) ∧
 (x0 ≤ 253402300799 →
 ((x1 < 1 →
 ((K.i64 16) ∧ evyC_post x0 x1 x2 m 16)) ∧
 (1 ≤ x1 →
 ((68719476736 < x1 →
 ((K.i64 16) ∧ evyC_post x0 x1 x2 m 16)) ∧
 (x1 ≤ 68719476736 →
 ((x2 < 0 →
 ((K.i64 16) ∧ evyC_post x0 x1 x2 m 16)) ∧
 (0 ≤ x2 →
 ((1000000 < x2 →
 ((K.i64 16) ∧ evyC_post x0 x1 x2 m 16)) ∧
 (x2 ≤ 1000000 →
 ((K.i64 0) ∧ evyC_post x0 x1 x2 m 0)))))))))))))
theorem evyC_vc : evyC_VC := by
 intro m x0 _ _ x1 _ _ x2 _ _ _
 repeat' first | (refine And.intro ?_ ?_) | intro _
 all_goals first
  | (constructor <;> decide)
  | (simp only [evyC_post, evyE]; first | rw [if_pos (by omega)] | rw [if_neg (by omega)])
theorem evyC_ok : SpOk Tryz.prog evyC :=
 con_ok (sps_of [] trivial rfl) (tab_ok _ []) 1000 evyC _ rfl rfl (Eq.mp (show evyC_VC = _ by kernel_rfl) evyC_vc)
def bval_pre (t : Int) (m : Mem) : Prop := True
def bval_post (t : Int) (m : Mem) (r : Bool) : Prop := r = As.timeB t
def bval : Sp := { args := [.i .i64], grp := [none], res := [.b], rgrp := [none], fn := 125, spec := fun a0 => (bval_pre a0, bval_post a0) }
def bval_VC : Prop := ∀ m : Mem, ∀ x0 : Int, mi ≤ x0 → x0 ≤ ma → bval_pre x0 m →
 ((0 ≤ x0 →
 (bval_post x0 m (decide (x0 ≤ 253402300799)))) ∧
 (x0 < 0 →
 (bval_post x0 m false)))
theorem bval_vc : bval_VC := by
 intro m x0 _ _ _
 simp only [bval_post, As.timeB]
 exact ⟨fun h => by simp [h], fun h => by simp; omega⟩
theorem bval_ok : SpOk Tryz.prog bval :=
 con_ok (sps_of [] trivial rfl) (tab_ok _ []) 1000 bval _ rfl rfl (Eq.mp (show bval_VC = _ by kernel_rfl) bval_vc)
def bChk_pre (p : Option Addr) (n c : Nat) (m : Mem) : Prop := ∃ S, SpansAt m p n S
def bChk_post (p : Option Addr) (n c : Nat) (m : Mem) (z : Int) : Prop := ∀ S, SpansAt m p n S → z = spansE S
def bChk : Sp := { args := [.sl], grp := [none], res := [.i .i64], rgrp := [none], fn := 124, spec := fun a0 a1 a2 => (bChk_pre a0 a1 a2, bChk_post a0 a1 a2) }
def bChk_VC : Prop := ∀ m : Mem, ∀ (p0 : Option Addr) (n0 c0 : Nat), n0 ≤ 9223372036854775807 → c0 ≤ 9223372036854775807 → bChk_pre p0 n0 c0 m →
 ((64 < (n0 : Int) →
 ((K.i64 12) ∧ bChk_post p0 n0 c0 m 12)) ∧
 ((n0 : Int) ≤ 64 →
 (∃ F1 : Int → Int → Prop × Nat, ((K.i64 0) ∧ (K.i64 0) ∧ (F1 0 0).1) ∧
 ∀ x2 : Int, mi ≤ x2 → x2 ≤ ma → ∀ x3 : Int, mi ≤ x3 → x3 ≤ ma → (F1 x2 x3).1 →
 ((x3 < (n0 : Int) →
 (0 ≤ x3 ∧ (p0 ≠ none ∧ (HasI m p0 (0 + (x3 * 2)) 2 ∧ (∃ x4 : Int, cellI m p0 (0 + (x3 * 2)) = some (vI x4) ∧ (K.i64 x4) ∧ ((bval_pre x4 m) ∧ ∀ m2 : Mem, MemSub m m2 → ∀ b0 : Bool, bval_post x4 m2 b0 →
 ((b0 = false →
 ((K.i64 14) ∧ bChk_post p0 n0 c0 m2 14)) ∧
 (b0 = true →
 (∃ x5 : Int, cellI m2 p0 ((0 + (x3 * 2)) + 1) = some (vI x5) ∧ (K.i64 x5) ∧ ((bval_pre x5 m2) ∧ ∀ m3 : Mem, MemSub m2 m3 → ∀ b1 : Bool, bval_post x5 m3 b1 →
 ((b1 = false →
 ((K.i64 14) ∧ bChk_post p0 n0 c0 m3 14)) ∧
 (b1 = true →
 ((x5 < x4 →
 ((K.i64 8) ∧ bChk_post p0 n0 c0 m3 8)) ∧
 (x4 ≤ x5 →
 ((x3 + 1) ≤ 9223372036854775807 ∧ ((K.i64 x2) ∧ (mi ≤ (x3 + 1) ∧ (x3 + 1) ≤ ma) ∧ ((F1 x2 (x3 + 1)).1 ∧ (F1 x2 (x3 + 1)).2 < (F1 x2 x3).2))))))))))))))))) ∧
 ((n0 : Int) ≤ x3 →
 ((K.i64 0) ∧ bChk_post p0 n0 c0 m 0))))))
theorem bChk_vc : bChk_VC := by
 intro m p n c hn hc ⟨S, hS⟩
 have ps : ∀ (m' : Mem) (z : Int), MemSub m m' → z = spansE S → bChk_post p n c m' z := fun m' z h e T hT => by
  rw [← hS.uniq h hT]; exact e
 have hl := hS.1
 refine ⟨fun h => ⟨by constructor <;> decide, ps m _ (memSub_refl m) (by rw [spansE, if_pos (by omega)])⟩, fun h64 => ?_⟩
 have e0 : spansE S = spE S := by rw [spansE, if_neg (by omega)]
 refine ⟨fun _ i => (0 ≤ i ∧ i ≤ n ∧ spE S = spE (S.drop i.toNat), (n - i).toNat), ⟨by constructor <;> decide, by constructor <;> decide, by omega, by omega, rfl⟩, fun x2 _ _ i _ _ hF => ⟨fun hi => ?_, fun hi => ?_⟩⟩
 ·obtain ⟨h0, h1, h2⟩ := hF
  obtain ⟨a, b, he, hp, ha, hb, g1, g2, g3⟩ := hS.at_ h0 hi
  rw [spE_drop he] at h2
  refine ⟨h0, hp, g1, a, ha.1, ha.2, trivial, fun m1 hm1 b0 e1 => ⟨fun hb0 => ⟨by constructor <;> decide, ps m1 _ hm1 ?_⟩, fun hb0 => ?_⟩⟩
  ·have e1' : b0 = As.timeB a := e1
   rw [e0, h2, spE, if_pos (.inl (by rw [← e1', hb0]))]
  have e1' : b0 = As.timeB a := e1
  refine ⟨b, cellI_sub hm1 hb.1, hb.2, trivial, fun m2 hm2 b1 e2 => ⟨fun hb1 => ⟨by constructor <;> decide, ps m2 _ (hm1.trans hm2) ?_⟩, fun hb1 => ⟨fun hlt => ⟨by constructor <;> decide, ps m2 _ (hm1.trans hm2) ?_⟩, fun hle => ?_⟩⟩⟩
  ·have e2' : b1 = As.timeB b := e2
   rw [e0, h2, spE, if_pos (.inr (by rw [← e2', hb1]))]
  ·have e2' : b1 = As.timeB b := e2
   rw [e0, h2, spE, if_neg (by rw [← e1', ← e2', hb0, hb1]; simp), if_pos hlt]
  ·have e2' : b1 = As.timeB b := e2
   refine ⟨by omega, ⟨by assumption, by assumption⟩, ⟨?_, ?_⟩, ⟨by omega, by omega, ?_⟩, ?_⟩
   ·simp only [show IntKind.i64.min = -9223372036854775808 from rfl] at *; omega
   ·simp only [show IntKind.i64.max = 9223372036854775807 from rfl] at *; omega
   ·rw [h2, spE, if_neg (by rw [← e1', ← e2', hb0, hb1]; simp), if_neg (by omega), show (i + 1).toNat = i.toNat + 1 by omega]
   ·simp only; omega
 ·obtain ⟨h0, h1, h2⟩ := hF
  refine ⟨by constructor <;> decide, ps m _ (memSub_refl m) ?_⟩
  rw [e0, h2, List.drop_eq_nil_of_le (by omega)]; rfl
theorem bChk_ok : SpOk Tryz.prog bChk :=
 con_ok (sps_of [bval] ⟨bval_ok, trivial⟩ rfl) (tab_ok _ [⟨(32, 4), [], [], [], []⟩]) 1000 bChk _ rfl rfl (Eq.mp (show bChk_VC = _ by kernel_rfl) bChk_vc)
end Go.Proofs.YtjabmipkllkfbaaGreatDoor.Vc
namespace Go.Proofs.YtjabmipkllkfbaaGreatDoor.Vc
def pPol_pre (a b c d e f g h i j k l n o p : Int) (m : Mem) : Prop := True
def pPol_post (a b c d e f g h i j k l n o p : Int) (m : Mem) (z : Int) : Prop := z = As.polP ⟨a, b, c, d, e, f, ⟨g, h⟩, ⟨i, j, k⟩, ⟨l, n, o, p⟩⟩
def pPol : Sp := { args := [.i .i64, .i .i64, .i .i64, .i .i64, .i .i64, .i .i64, .i .i64, .i .i64, .i .i64, .i .i64, .i .i64, .i .i64, .i .i64, .i .i64, .i .i64], grp := [some 15], res := [.i .i64], rgrp := [none], fn := 82, spec := fun a0 a1 a2 a3 a4 a5 a6 a7 a8 a9 a10 a11 a12 a13 a14 => (pPol_pre a0 a1 a2 a3 a4 a5 a6 a7 a8 a9 a10 a11 a12 a13 a14, pPol_post a0 a1 a2 a3 a4 a5 a6 a7 a8 a9 a10 a11 a12 a13 a14) }
def pPol_VC : Prop := ∀ m : Mem, ∀ x0 : Int, mi ≤ x0 → x0 ≤ ma → ∀ x1 : Int, mi ≤ x1 → x1 ≤ ma → ∀ x2 : Int, mi ≤ x2 → x2 ≤ ma → ∀ x3 : Int, mi ≤ x3 → x3 ≤ ma → ∀ x4 : Int, mi ≤ x4 → x4 ≤ ma → ∀ x5 : Int, mi ≤ x5 → x5 ≤ ma → ∀ x6 : Int, mi ≤ x6 → x6 ≤ ma → ∀ x7 : Int, mi ≤ x7 → x7 ≤ ma → ∀ x8 : Int, mi ≤ x8 → x8 ≤ ma → ∀ x9 : Int, mi ≤ x9 → x9 ≤ ma → ∀ x10 : Int, mi ≤ x10 → x10 ≤ ma → ∀ x11 : Int, mi ≤ x11 → x11 ≤ ma → ∀ x12 : Int, mi ≤ x12 → x12 ≤ ma → ∀ x13 : Int, mi ≤ x13 → x13 ≤ ma → ∀ x14 : Int, mi ≤ x14 → x14 ≤ ma → pPol_pre x0 x1 x2 x3 x4 x5 x6 x7 x8 x9 x10 x11 x12 x13 x14 m →
 ((inI_pre x0 1 1000 m) ∧ ∀ m1 : Mem, MemSub m m1 → ∀ b0 : Bool, inI_post x0 1 1000 m1 b0 →
 ((inI_pre x1 0 100 m1) ∧ ∀ m2 : Mem, MemSub m1 m2 → ∀ b1 : Bool, inI_post x1 0 100 m2 b1 →
 ((in64_pre x2 0 68719476736 m2) ∧ ∀ m3 : Mem, MemSub m2 m3 → ∀ b2 : Bool, in64_post x2 0 68719476736 m3 b2 →
 ((in64_pre x3 0 68719476736 m3) ∧ ∀ m4 : Mem, MemSub m3 m4 → ∀ b3 : Bool, in64_post x3 0 68719476736 m4 b3 →
 ((b0 = false →
 ((pMis_pre x4 x5 m4) ∧ ∀ m5 : Mem, MemSub m4 m5 → ∀ x15 : Int, mi ≤ x15 → x15 ≤ ma → pMis_post x4 x5 m5 x15 →
 ((pLim_pre x6 x7 m5) ∧ ∀ m6 : Mem, MemSub m5 m6 → ∀ x16 : Int, mi ≤ x16 → x16 ≤ ma → pLim_post x6 x7 m6 x16 →
 ((pBrk_pre x8 x9 x10 m6) ∧ ∀ m7 : Mem, MemSub m6 m7 → ∀ x17 : Int, mi ≤ x17 → x17 ≤ ma → pBrk_post x8 x9 x10 m7 x17 →
 ((pRet_pre x11 x12 x13 x14 m7) ∧ ∀ m8 : Mem, MemSub m7 m8 → ∀ x18 : Int, mi ≤ x18 → x18 ≤ ma → pRet_post x11 x12 x13 x14 m8 x18 →
 ((x15 = 10 →
 ((K.i64 x15) ∧ pPol_post x0 x1 x2 x3 x4 x5 x6 x7 x8 x9 x10 x11 x12 x13 x14 m8 x15)) ∧
 (x15 ≠ 10 →
 ((x15 ≠ 0 →
 ((x16 = 10 →
 ((K.i64 x16) ∧ pPol_post x0 x1 x2 x3 x4 x5 x6 x7 x8 x9 x10 x11 x12 x13 x14 m8 x16)) ∧
 (x16 ≠ 10 →
 ((x16 ≠ 0 →
 ((x17 = 10 →
 ((K.i64 x17) ∧ pPol_post x0 x1 x2 x3 x4 x5 x6 x7 x8 x9 x10 x11 x12 x13 x14 m8 x17)) ∧
 (x17 ≠ 10 →
 ((x17 ≠ 0 →
 ((x18 = 10 →
 ((K.i64 x18) ∧ pPol_post x0 x1 x2 x3 x4 x5 x6 x7 x8 x9 x10 x11 x12 x13 x14 m8 x18)) ∧
 (x18 ≠ 10 →
 ((x18 ≠ 0 →
 ((K.i64 16) ∧ pPol_post x0 x1 x2 x3 x4 x5 x6 x7 x8 x9 x10 x11 x12 x13 x14 m8 16)) ∧
 (x18 = 0 →
 ((K.i64 16) ∧ pPol_post x0 x1 x2 x3 x4 x5 x6 x7 x8 x9 x10 x11 x12 x13 x14 m8 16)))))) ∧
 (x17 = 0 →
 ((x18 = 10 →
 ((K.i64 x18) ∧ pPol_post x0 x1 x2 x3 x4 x5 x6 x7 x8 x9 x10 x11 x12 x13 x14 m8 x18)) ∧
 (x18 ≠ 10 →
 ((x18 ≠ 0 →
 ((K.i64 16) ∧ pPol_post x0 x1 x2 x3 x4 x5 x6 x7 x8 x9 x10 x11 x12 x13 x14 m8 16)) ∧
 (x18 = 0 →
 ((K.i64 16) ∧ pPol_post x0 x1 x2 x3 x4 x5 x6 x7 x8 x9 x10 x11 x12 x13 x14 m8 16)))))))))) ∧
 (x16 = 0 →
 ((x17 = 10 →
 ((K.i64 x17) ∧ pPol_post x0 x1 x2 x3 x4 x5 x6 x7 x8 x9 x10 x11 x12 x13 x14 m8 x17)) ∧
 (x17 ≠ 10 →
 ((x17 ≠ 0 →
 ((x18 = 10 →
 ((K.i64 x18) ∧ pPol_post x0 x1 x2 x3 x4 x5 x6 x7 x8 x9 x10 x11 x12 x13 x14 m8 x18)) ∧
 (x18 ≠ 10 →
 ((x18 ≠ 0 →
 ((K.i64 16) ∧ pPol_post x0 x1 x2 x3 x4 x5 x6 x7 x8 x9 x10 x11 x12 x13 x14 m8 16)) ∧
 (x18 = 0 →
 ((K.i64 16) ∧ pPol_post x0 x1 x2 x3 x4 x5 x6 x7 x8 x9 x10 x11 x12 x13 x14 m8 16)))))) ∧
 (x17 = 0 →
 ((x18 = 10 →
 ((K.i64 x18) ∧ pPol_post x0 x1 x2 x3 x4 x5 x6 x7 x8 x9 x10 x11 x12 x13 x14 m8 x18)) ∧
 (x18 ≠ 10 →
 ((x18 ≠ 0 →
 ((K.i64 16) ∧ pPol_post x0 x1 x2 x3 x4 x5 x6 x7 x8 x9 x10 x11 x12 x13 x14 m8 16)) ∧
 (x18 = 0 →
 ((K.i64 16) ∧ pPol_post x0 x1 x2 x3 x4 x5 x6 x7 x8 x9 x10 x11 x12 x13 x14 m8 16)))))))))))))) ∧
 (x15 = 0 →
 ((x16 = 10 →
 ((K.i64 x16) ∧ pPol_post x0 x1 x2 x3 x4 x5 x6 x7 x8 x9 x10 x11 x12 x13 x14 m8 x16)) ∧
 (x16 ≠ 10 →
 ((x16 ≠ 0 →
 ((x17 = 10 →
 ((K.i64 x17) ∧ pPol_post x0 x1 x2 x3 x4 x5 x6 x7 x8 x9 x10 x11 x12 x13 x14 m8 x17)) ∧
 (x17 ≠ 10 →
 ((x17 ≠ 0 →
 ((x18 = 10 →
 ((K.i64 x18) ∧ pPol_post x0 x1 x2 x3 x4 x5 x6 x7 x8 x9 x10 x11 x12 x13 x14 m8 x18)) ∧
 (x18 ≠ 10 →
 ((x18 ≠ 0 →
 ((K.i64 16) ∧ pPol_post x0 x1 x2 x3 x4 x5 x6 x7 x8 x9 x10 x11 x12 x13 x14 m8 16)) ∧
 (x18 = 0 →
 ((K.i64 16) ∧ pPol_post x0 x1 x2 x3 x4 x5 x6 x7 x8 x9 x10 x11 x12 x13 x14 m8 16)))))) ∧
 (x17 = 0 →
 ((x18 = 10 →
 ((K.i64 x18) ∧ pPol_post x0 x1 x2 x3 x4 x5 x6 x7 x8 x9 x10 x11 x12 x13 x14 m8 x18)) ∧
 (x18 ≠ 10 →
 ((x18 ≠ 0 →
 ((K.i64 16) ∧ pPol_post x0 x1 x2 x3 x4 x5 x6 x7 x8 x9 x10 x11 x12 x13 x14 m8 16)) ∧
 (x18 = 0 →
 ((K.i64 16) ∧ pPol_post x0 x1 x2 x3 x4 x5 x6 x7 x8 x9 x10 x11 x12 x13 x14 m8 16)))))))))) ∧
 (x16 = 0 →
 ((x17 = 10 →
 ((K.i64 x17) ∧ pPol_post x0 x1 x2 x3 x4 x5 x6 x7 x8 x9 x10 x11 x12 x13 x14 m8 x17)) ∧
 (x17 ≠ 10 →
 ((x17 ≠ 0 →
 ((x18 = 10 →
 ((K.i64 x18) ∧ pPol_post x0 x1 x2 x3 x4 x5 x6 x7 x8 x9 x10 x11 x12 x13 x14 m8 x18)) ∧
 (x18 ≠ 10 →
 ((x18 ≠ 0 →
 ((K.i64 16) ∧ pPol_post x0 x1 x2 x3 x4 x5 x6 x7 x8 x9 x10 x11 x12 x13 x14 m8 16)) ∧
 (x18 = 0 →
 ((K.i64 16) ∧ pPol_post x0 x1 x2 x3 x4 x5 x6 x7 x8 x9 x10 x11 x12 x13 x14 m8 16)))))) ∧
 (x17 = 0 →
 ((x18 = 10 →
 ((K.i64 x18) ∧ pPol_post x0 x1 x2 x3 x4 x5 x6 x7 x8 x9 x10 x11 x12 x13 x14 m8 x18)) ∧
 (x18 ≠ 10 →
 ((x18 ≠ 0 →
 ((K.i64 16) ∧ pPol_post x0 x1 x2 x3 x4 x5 x6 x7 x8 x9 x10 x11 x12 x13 x14 m8 16)) ∧
 (x18 = 0 →
 ((K.i64 16) ∧ pPol_post x0 x1 x2 x3 x4 x5 x6 x7 x8 x9 x10 x11 x12 x13 x14 m8 16)))))))))))))))))))))) ∧
 (b0 = true →
 ((b1 = false →
 ((pMis_pre x4 x5 m4) ∧ ∀ m5 : Mem, MemSub m4 m5 → ∀ x15 : Int, mi ≤ x15 → x15 ≤ ma → pMis_post x4 x5 m5 x15 →
 ((pLim_pre x6 x7 m5) ∧ ∀ m6 : Mem, MemSub m5 m6 → ∀ x16 : Int, mi ≤ x16 → x16 ≤ ma → pLim_post x6 x7 m6 x16 →
 ((pBrk_pre x8 x9 x10 m6) ∧ ∀ m7 : Mem, MemSub m6 m7 → ∀ x17 : Int, mi ≤ x17 → x17 ≤ ma → pBrk_post x8 x9 x10 m7 x17 →
 ((pRet_pre x11 x12 x13 x14 m7) ∧ ∀ m8 : Mem, MemSub m7 m8 → ∀ x18 : Int, mi ≤ x18 → x18 ≤ ma → pRet_post x11 x12 x13 x14 m8 x18 →
 ((x15 = 10 →
 ((K.i64 x15) ∧ pPol_post x0 x1 x2 x3 x4 x5 x6 x7 x8 x9 x10 x11 x12 x13 x14 m8 x15)) ∧
 (x15 ≠ 10 →
 ((x15 ≠ 0 →
 ((x16 = 10 →
 ((K.i64 x16) ∧ pPol_post x0 x1 x2 x3 x4 x5 x6 x7 x8 x9 x10 x11 x12 x13 x14 m8 x16)) ∧
 (x16 ≠ 10 →
 ((x16 ≠ 0 →
 ((x17 = 10 →
 ((K.i64 x17) ∧ pPol_post x0 x1 x2 x3 x4 x5 x6 x7 x8 x9 x10 x11 x12 x13 x14 m8 x17)) ∧
 (x17 ≠ 10 →
 ((x17 ≠ 0 →
 ((x18 = 10 →
 ((K.i64 x18) ∧ pPol_post x0 x1 x2 x3 x4 x5 x6 x7 x8 x9 x10 x11 x12 x13 x14 m8 x18)) ∧
 (x18 ≠ 10 →
 ((x18 ≠ 0 →
 ((K.i64 16) ∧ pPol_post x0 x1 x2 x3 x4 x5 x6 x7 x8 x9 x10 x11 x12 x13 x14 m8 16)) ∧
 (x18 = 0 →
 ((K.i64 16) ∧ pPol_post x0 x1 x2 x3 x4 x5 x6 x7 x8 x9 x10 x11 x12 x13 x14 m8 16)))))) ∧
 (x17 = 0 →
 ((x18 = 10 →
 ((K.i64 x18) ∧ pPol_post x0 x1 x2 x3 x4 x5 x6 x7 x8 x9 x10 x11 x12 x13 x14 m8 x18)) ∧
 (x18 ≠ 10 →
 ((x18 ≠ 0 →
 ((K.i64 16) ∧ pPol_post x0 x1 x2 x3 x4 x5 x6 x7 x8 x9 x10 x11 x12 x13 x14 m8 16)) ∧
 (x18 = 0 →
 ((K.i64 16) ∧ pPol_post x0 x1 x2 x3 x4 x5 x6 x7 x8 x9 x10 x11 x12 x13 x14 m8 16)))))))))) ∧
 (x16 = 0 →
 ((x17 = 10 →
 ((K.i64 x17) ∧ pPol_post x0 x1 x2 x3 x4 x5 x6 x7 x8 x9 x10 x11 x12 x13 x14 m8 x17)) ∧
 (x17 ≠ 10 →
 ((x17 ≠ 0 →
 ((x18 = 10 →
 ((K.i64 x18) ∧ pPol_post x0 x1 x2 x3 x4 x5 x6 x7 x8 x9 x10 x11 x12 x13 x14 m8 x18)) ∧
 (x18 ≠ 10 →
 ((x18 ≠ 0 →
 ((K.i64 16) ∧ pPol_post x0 x1 x2 x3 x4 x5 x6 x7 x8 x9 x10 x11 x12 x13 x14 m8 16)) ∧
 (x18 = 0 →
 ((K.i64 16) ∧ pPol_post x0 x1 x2 x3 x4 x5 x6 x7 x8 x9 x10 x11 x12 x13 x14 m8 16)))))) ∧
 (x17 = 0 →
 ((x18 = 10 →
 ((K.i64 x18) ∧ pPol_post x0 x1 x2 x3 x4 x5 x6 x7 x8 x9 x10 x11 x12 x13 x14 m8 x18)) ∧
 (x18 ≠ 10 →
 ((x18 ≠ 0 →
 ((K.i64 16) ∧ pPol_post x0 x1 x2 x3 x4 x5 x6 x7 x8 x9 x10 x11 x12 x13 x14 m8 16)) ∧
 (x18 = 0 →
 ((K.i64 16) ∧ pPol_post x0 x1 x2 x3 x4 x5 x6 x7 x8 x9 x10 x11 x12 x13 x14 m8 16)))))))))))))) ∧
 (x15 = 0 →
 ((x16 = 10 →
 ((K.i64 x16) ∧ pPol_post x0 x1 x2 x3 x4 x5 x6 x7 x8 x9 x10 x11 x12 x13 x14 m8 x16)) ∧
 (x16 ≠ 10 →
 ((x16 ≠ 0 →
 ((x17 = 10 →
 ((K.i64 x17) ∧ pPol_post x0 x1 x2 x3 x4 x5 x6 x7 x8 x9 x10 x11 x12 x13 x14 m8 x17)) ∧
 (x17 ≠ 10 →
 ((x17 ≠ 0 →
 ((x18 = 10 →
 ((K.i64 x18) ∧ pPol_post x0 x1 x2 x3 x4 x5 x6 x7 x8 x9 x10 x11 x12 x13 x14 m8 x18)) ∧
 (x18 ≠ 10 →
 ((x18 ≠ 0 →
 ((K.i64 16) ∧ pPol_post x0 x1 x2 x3 x4 x5 x6 x7 x8 x9 x10 x11 x12 x13 x14 m8 16)) ∧
 (x18 = 0 →
 ((K.i64 16) ∧ pPol_post x0 x1 x2 x3 x4 x5 x6 x7 x8 x9 x10 x11 x12 x13 x14 m8 16)))))) ∧
 (x17 = 0 →
 ((x18 = 10 →
 ((K.i64 x18) ∧ pPol_post x0 x1 x2 x3 x4 x5 x6 x7 x8 x9 x10 x11 x12 x13 x14 m8 x18)) ∧
 (x18 ≠ 10 →
 ((x18 ≠ 0 →
 ((K.i64 16) ∧ pPol_post x0 x1 x2 x3 x4 x5 x6 x7 x8 x9 x10 x11 x12 x13 x14 m8 16)) ∧
 (x18 = 0 →
 ((K.i64 16) ∧ pPol_post x0 x1 x2 x3 x4 x5 x6 x7 x8 x9 x10 x11 x12 x13 x14 m8 16)))))))))) ∧
 (x16 = 0 →
 ((x17 = 10 →
 ((K.i64 x17) ∧ pPol_post x0 x1 x2 x3 x4 x5 x6 x7 x8 x9 x10 x11 x12 x13 x14 m8 x17)) ∧
 (x17 ≠ 10 →
 ((x17 ≠ 0 →
 ((x18 = 10 →
 ((K.i64 x18) ∧ pPol_post x0 x1 x2 x3 x4 x5 x6 x7 x8 x9 x10 x11 x12 x13 x14 m8 x18)) ∧
 (x18 ≠ 10 →
 ((x18 ≠ 0 →
 ((K.i64 16) ∧ pPol_post x0 x1 x2 x3 x4 x5 x6 x7 x8 x9 x10 x11 x12 x13 x14 m8 16)) ∧
 (x18 = 0 →
 ((K.i64 16) ∧ pPol_post x0 x1 x2 x3 x4 x5 x6 x7 x8 x9 x10 x11 x12 x13 x14 m8 16)))))) ∧
 (x17 = 0 →
 ((x18 = 10 →
 ((K.i64 x18) ∧ pPol_post x0 x1 x2 x3 x4 x5 x6 x7 x8 x9 x10 x11 x12 x13 x14 m8 x18)) ∧
 (x18 ≠ 10 →
 ((x18 ≠ 0 →
 ((K.i64 16) ∧ pPol_post x0 x1 x2 x3 x4 x5 x6 x7 x8 x9 x10 x11 x12 x13 x14 m8 16)) ∧
 (x18 = 0 →
 ((K.i64 16) ∧ pPol_post x0 x1 x2 x3 x4 x5 x6 x7 x8 x9 x10 x11 x12 x13 x14 m8 16)))))))))))))))))))))) ∧
 (b1 = true →
 ((b2 = false →
 ((pMis_pre x4 x5 m4) ∧ ∀ m5 : Mem, MemSub m4 m5 → ∀ x15 : Int, mi ≤ x15 → x15 ≤ ma → pMis_post x4 x5 m5 x15 →
 ((pLim_pre x6 x7 m5) ∧ ∀ m6 : Mem, MemSub m5 m6 → ∀ x16 : Int, mi ≤ x16 → x16 ≤ ma → pLim_post x6 x7 m6 x16 →
 ((pBrk_pre x8 x9 x10 m6) ∧ ∀ m7 : Mem, MemSub m6 m7 → ∀ x17 : Int, mi ≤ x17 → x17 ≤ ma → pBrk_post x8 x9 x10 m7 x17 →
 ((pRet_pre x11 x12 x13 x14 m7) ∧ ∀ m8 : Mem, MemSub m7 m8 → ∀ x18 : Int, mi ≤ x18 → x18 ≤ ma → pRet_post x11 x12 x13 x14 m8 x18 →
 ((x15 = 10 →
 ((K.i64 x15) ∧ pPol_post x0 x1 x2 x3 x4 x5 x6 x7 x8 x9 x10 x11 x12 x13 x14 m8 x15)) ∧
 (x15 ≠ 10 →
 ((x15 ≠ 0 →
 ((x16 = 10 →
 ((K.i64 x16) ∧ pPol_post x0 x1 x2 x3 x4 x5 x6 x7 x8 x9 x10 x11 x12 x13 x14 m8 x16)) ∧
 (x16 ≠ 10 →
 ((x16 ≠ 0 →
 ((x17 = 10 →
 ((K.i64 x17) ∧ pPol_post x0 x1 x2 x3 x4 x5 x6 x7 x8 x9 x10 x11 x12 x13 x14 m8 x17)) ∧
 (x17 ≠ 10 →
 ((x17 ≠ 0 →
 ((x18 = 10 →
 ((K.i64 x18) ∧ pPol_post x0 x1 x2 x3 x4 x5 x6 x7 x8 x9 x10 x11 x12 x13 x14 m8 x18)) ∧
 (x18 ≠ 10 →
 ((x18 ≠ 0 →
 ((K.i64 16) ∧ pPol_post x0 x1 x2 x3 x4 x5 x6 x7 x8 x9 x10 x11 x12 x13 x14 m8 16)) ∧
 (x18 = 0 →
 ((K.i64 16) ∧ pPol_post x0 x1 x2 x3 x4 x5 x6 x7 x8 x9 x10 x11 x12 x13 x14 m8 16)))))) ∧
 (x17 = 0 →
 ((x18 = 10 →
 ((K.i64 x18) ∧ pPol_post x0 x1 x2 x3 x4 x5 x6 x7 x8 x9 x10 x11 x12 x13 x14 m8 x18)) ∧
 (x18 ≠ 10 →
 ((x18 ≠ 0 →
 ((K.i64 16) ∧ pPol_post x0 x1 x2 x3 x4 x5 x6 x7 x8 x9 x10 x11 x12 x13 x14 m8 16)) ∧
 (x18 = 0 →
 ((K.i64 16) ∧ pPol_post x0 x1 x2 x3 x4 x5 x6 x7 x8 x9 x10 x11 x12 x13 x14 m8 16)))))))))) ∧
 (x16 = 0 →
 ((x17 = 10 →
 ((K.i64 x17) ∧ pPol_post x0 x1 x2 x3 x4 x5 x6 x7 x8 x9 x10 x11 x12 x13 x14 m8 x17)) ∧
 (x17 ≠ 10 →
 ((x17 ≠ 0 →
 ((x18 = 10 →
 ((K.i64 x18) ∧ pPol_post x0 x1 x2 x3 x4 x5 x6 x7 x8 x9 x10 x11 x12 x13 x14 m8 x18)) ∧
 (x18 ≠ 10 →
 ((x18 ≠ 0 →
 ((K.i64 16) ∧ pPol_post x0 x1 x2 x3 x4 x5 x6 x7 x8 x9 x10 x11 x12 x13 x14 m8 16)) ∧
 (x18 = 0 →
 ((K.i64 16) ∧ pPol_post x0 x1 x2 x3 x4 x5 x6 x7 x8 x9 x10 x11 x12 x13 x14 m8 16)))))) ∧
 (x17 = 0 →
 ((x18 = 10 →
 ((K.i64 x18) ∧ pPol_post x0 x1 x2 x3 x4 x5 x6 x7 x8 x9 x10 x11 x12 x13 x14 m8 x18)) ∧
 (x18 ≠ 10 →
 ((x18 ≠ 0 →
 ((K.i64 16) ∧ pPol_post x0 x1 x2 x3 x4 x5 x6 x7 x8 x9 x10 x11 x12 x13 x14 m8 16)) ∧
 (x18 = 0 →
 ((K.i64 16) ∧ pPol_post x0 x1 x2 x3 x4 x5 x6 x7 x8 x9 x10 x11 x12 x13 x14 m8 16)))))))))))))) ∧
 (x15 = 0 →
 ((x16 = 10 →
 ((K.i64 x16) ∧ pPol_post x0 x1 x2 x3 x4 x5 x6 x7 x8 x9 x10 x11 x12 x13 x14 m8 x16)) ∧
 (x16 ≠ 10 →
 ((x16 ≠ 0 →
 ((x17 = 10 →
 ((K.i64 x17) ∧ pPol_post x0 x1 x2 x3 x4 x5 x6 x7 x8 x9 x10 x11 x12 x13 x14 m8 x17)) ∧
 (x17 ≠ 10 →
 ((x17 ≠ 0 →
 ((x18 = 10 →
 ((K.i64 x18) ∧ pPol_post x0 x1 x2 x3 x4 x5 x6 x7 x8 x9 x10 x11 x12 x13 x14 m8 x18)) ∧
 (x18 ≠ 10 →
 ((x18 ≠ 0 →
 ((K.i64 16) ∧ pPol_post x0 x1 x2 x3 x4 x5 x6 x7 x8 x9 x10 x11 x12 x13 x14 m8 16)) ∧
 (x18 = 0 →
 ((K.i64 16) ∧ pPol_post x0 x1 x2 x3 x4 x5 x6 x7 x8 x9 x10 x11 x12 x13 x14 m8 16)))))) ∧
 (x17 = 0 →
 ((x18 = 10 →
 ((K.i64 x18) ∧ pPol_post x0 x1 x2 x3 x4 x5 x6 x7 x8 x9 x10 x11 x12 x13 x14 m8 x18)) ∧
 (x18 ≠ 10 →
 ((x18 ≠ 0 →
 ((K.i64 16) ∧ pPol_post x0 x1 x2 x3 x4 x5 x6 x7 x8 x9 x10 x11 x12 x13 x14 m8 16)) ∧
 (x18 = 0 →
 ((K.i64 16) ∧ pPol_post x0 x1 x2 x3 x4 x5 x6 x7 x8 x9 x10 x11 x12 x13 x14 m8 16)))))))))) ∧
 (x16 = 0 →
 ((x17 = 10 →
 ((K.i64 x17) ∧ pPol_post x0 x1 x2 x3 x4 x5 x6 x7 x8 x9 x10 x11 x12 x13 x14 m8 x17)) ∧
 (x17 ≠ 10 →
 ((x17 ≠ 0 →
 ((x18 = 10 →
 ((K.i64 x18) ∧ pPol_post x0 x1 x2 x3 x4 x5 x6 x7 x8 x9 x10 x11 x12 x13 x14 m8 x18)) ∧
 (x18 ≠ 10 →
 ((x18 ≠ 0 →
 ((K.i64 16) ∧ pPol_post x0 x1 x2 x3 x4 x5 x6 x7 x8 x9 x10 x11 x12 x13 x14 m8 16)) ∧
 (x18 = 0 →
 ((K.i64 16) ∧ pPol_post x0 x1 x2 x3 x4 x5 x6 x7 x8 x9 x10 x11 x12 x13 x14 m8 16)))))) ∧
 (x17 = 0 →
 ((x18 = 10 →
 ((K.i64 x18) ∧ pPol_post x0 x1 x2 x3 x4 x5 x6 x7 x8 x9 x10 x11 x12 x13 x14 m8 x18)) ∧
 (x18 ≠ 10 →
 ((x18 ≠ 0 →
 ((K.i64 16) ∧ pPol_post x0 x1 x2 x3 x4 x5 x6 x7 x8 x9 x10 x11 x12 x13 x14 m8 16)) ∧
 (x18 = 0 →
 ((K.i64 16) ∧ pPol_post x0 x1 x2 x3 x4 x5 x6 x7 x8 x9 x10 x11 x12 x13 x14 m8 16)))))))))))))))))))))) ∧
 (b2 = true →
 ((b3 = false →
 ((pMis_pre x4 x5 m4) ∧ ∀ m5 : Mem, MemSub m4 m5 → ∀ x15 : Int, mi ≤ x15 → x15 ≤ ma → pMis_post x4 x5 m5 x15 →
 ((pLim_pre x6 x7 m5) ∧ ∀ m6 : Mem, MemSub m5 m6 → ∀ x16 : Int, mi ≤ x16 → x16 ≤ ma → pLim_post x6 x7 m6 x16 →
 ((pBrk_pre x8 x9 x10 m6) ∧ ∀ m7 : Mem, MemSub m6 m7 → ∀ x17 : Int, mi ≤ x17 → x17 ≤ ma → pBrk_post x8 x9 x10 m7 x17 →
 ((pRet_pre x11 x12 x13 x14 m7) ∧ ∀ m8 : Mem, MemSub m7 m8 → ∀ x18 : Int, mi ≤ x18 → x18 ≤ ma → pRet_post x11 x12 x13 x14 m8 x18 →
 ((x15 = 10 →
 ((K.i64 x15) ∧ pPol_post x0 x1 x2 x3 x4 x5 x6 x7 x8 x9 x10 x11 x12 x13 x14 m8 x15)) ∧
 (x15 ≠ 10 →
 ((x15 ≠ 0 →
 ((x16 = 10 →
 ((K.i64 x16) ∧ pPol_post x0 x1 x2 x3 x4 x5 x6 x7 x8 x9 x10 x11 x12 x13 x14 m8 x16)) ∧
 (x16 ≠ 10 →
 ((x16 ≠ 0 →
 ((x17 = 10 →
 ((K.i64 x17) ∧ pPol_post x0 x1 x2 x3 x4 x5 x6 x7 x8 x9 x10 x11 x12 x13 x14 m8 x17)) ∧
 (x17 ≠ 10 →
 ((x17 ≠ 0 →
 ((x18 = 10 →
 ((K.i64 x18) ∧ pPol_post x0 x1 x2 x3 x4 x5 x6 x7 x8 x9 x10 x11 x12 x13 x14 m8 x18)) ∧
 (x18 ≠ 10 →
 ((x18 ≠ 0 →
 ((K.i64 16) ∧ pPol_post x0 x1 x2 x3 x4 x5 x6 x7 x8 x9 x10 x11 x12 x13 x14 m8 16)) ∧
 (x18 = 0 →
 ((K.i64 16) ∧ pPol_post x0 x1 x2 x3 x4 x5 x6 x7 x8 x9 x10 x11 x12 x13 x14 m8 16)))))) ∧
 (x17 = 0 →
 ((x18 = 10 →
 ((K.i64 x18) ∧ pPol_post x0 x1 x2 x3 x4 x5 x6 x7 x8 x9 x10 x11 x12 x13 x14 m8 x18)) ∧
 (x18 ≠ 10 →
 ((x18 ≠ 0 →
 ((K.i64 16) ∧ pPol_post x0 x1 x2 x3 x4 x5 x6 x7 x8 x9 x10 x11 x12 x13 x14 m8 16)) ∧
 (x18 = 0 →
 ((K.i64 16) ∧ pPol_post x0 x1 x2 x3 x4 x5 x6 x7 x8 x9 x10 x11 x12 x13 x14 m8 16)))))))))) ∧
 (x16 = 0 →
 ((x17 = 10 →
 ((K.i64 x17) ∧ pPol_post x0 x1 x2 x3 x4 x5 x6 x7 x8 x9 x10 x11 x12 x13 x14 m8 x17)) ∧
 (x17 ≠ 10 →
 ((x17 ≠ 0 →
 ((x18 = 10 →
 ((K.i64 x18) ∧ pPol_post x0 x1 x2 x3 x4 x5 x6 x7 x8 x9 x10 x11 x12 x13 x14 m8 x18)) ∧
 (x18 ≠ 10 →
 ((x18 ≠ 0 →
 ((K.i64 16) ∧ pPol_post x0 x1 x2 x3 x4 x5 x6 x7 x8 x9 x10 x11 x12 x13 x14 m8 16)) ∧
 (x18 = 0 →
 ((K.i64 16) ∧ pPol_post x0 x1 x2 x3 x4 x5 x6 x7 x8 x9 x10 x11 x12 x13 x14 m8 16)))))) ∧
 (x17 = 0 →
 ((x18 = 10 →
 ((K.i64 x18) ∧ pPol_post x0 x1 x2 x3 x4 x5 x6 x7 x8 x9 x10 x11 x12 x13 x14 m8 x18)) ∧
 (x18 ≠ 10 →
 ((x18 ≠ 0 →
 ((K.i64 16) ∧ pPol_post x0 x1 x2 x3 x4 x5 x6 x7 x8 x9 x10 x11 x12 x13 x14 m8 16)) ∧
 (x18 = 0 →
 ((K.i64 16) ∧ pPol_post x0 x1 x2 x3 x4 x5 x6 x7 x8 x9 x10 x11 x12 x13 x14 m8 16)))))))))))))) ∧
 (x15 = 0 →
 ((x16 = 10 →
 ((K.i64 x16) ∧ pPol_post x0 x1 x2 x3 x4 x5 x6 x7 x8 x9 x10 x11 x12 x13 x14 m8 x16)) ∧
 (x16 ≠ 10 →
 ((x16 ≠ 0 →
 ((x17 = 10 →
 ((K.i64 x17) ∧ pPol_post x0 x1 x2 x3 x4 x5 x6 x7 x8 x9 x10 x11 x12 x13 x14 m8 x17)) ∧
 (x17 ≠ 10 →
 ((x17 ≠ 0 →
 ((x18 = 10 →
 ((K.i64 x18) ∧ pPol_post x0 x1 x2 x3 x4 x5 x6 x7 x8 x9 x10 x11 x12 x13 x14 m8 x18)) ∧
 (x18 ≠ 10 →
 ((x18 ≠ 0 →
 ((K.i64 16) ∧ pPol_post x0 x1 x2 x3 x4 x5 x6 x7 x8 x9 x10 x11 x12 x13 x14 m8 16)) ∧
 (x18 = 0 →
 ((K.i64 16) ∧ pPol_post x0 x1 x2 x3 x4 x5 x6 x7 x8 x9 x10 x11 x12 x13 x14 m8 16)))))) ∧
 (x17 = 0 →
 ((x18 = 10 →
 ((K.i64 x18) ∧ pPol_post x0 x1 x2 x3 x4 x5 x6 x7 x8 x9 x10 x11 x12 x13 x14 m8 x18)) ∧
 (x18 ≠ 10 →
 ((x18 ≠ 0 →
 ((K.i64 16) ∧ pPol_post x0 x1 x2 x3 x4 x5 x6 x7 x8 x9 x10 x11 x12 x13 x14 m8 16)) ∧
 (x18 = 0 →
 ((K.i64 16) ∧ pPol_post x0 x1 x2 x3 x4 x5 x6 x7 x8 x9 x10 x11 x12 x13 x14 m8 16)))))))))) ∧
 (x16 = 0 →
 ((x17 = 10 →
 ((K.i64 x17) ∧ pPol_post x0 x1 x2 x3 x4 x5 x6 x7 x8 x9 x10 x11 x12 x13 x14 m8 x17)) ∧
 (x17 ≠ 10 →
 ((x17 ≠ 0 →
 ((x18 = 10 →
 ((K.i64 x18) ∧ pPol_post x0 x1 x2 x3 x4 x5 x6 x7 x8 x9 x10 x11 x12 x13 x14 m8 x18)) ∧
 (x18 ≠ 10 →
 ((x18 ≠ 0 →
 ((K.i64 16) ∧ pPol_post x0 x1 x2 x3 x4 x5 x6 x7 x8 x9 x10 x11 x12 x13 x14 m8 16)) ∧
 (x18 = 0 →
 ((K.i64 16) ∧ pPol_post x0 x1 x2 x3 x4 x5 x6 x7 x8 x9 x10 x11 x12 x13 x14 m8 16)))))) ∧
 (x17 = 0 →
 ((x18 = 10 →
 ((K.i64 x18) ∧ pPol_post x0 x1 x2 x3 x4 x5 x6 x7 x8 x9 x10 x11 x12 x13 x14 m8 x18)) ∧
 (x18 ≠ 10 →
 ((x18 ≠ 0 →
 ((K.i64 16) ∧ pPol_post x0 x1 x2 x3 x4 x5 x6 x7 x8 x9 x10 x11 x12 x13 x14 m8 16)) ∧
 (x18 = 0 →
 ((K.i64 16) ∧ pPol_post x0 x1 x2 x3 x4 x5 x6 x7 x8 x9 x10 x11 x12 x13 x14 m8 16)))))))))))))))))))))) ∧
 (b3 = true →
 ((pMis_pre x4 x5 m4) ∧ ∀ m5 : Mem, MemSub m4 m5 → ∀ x15 : Int, mi ≤ x15 → x15 ≤ ma → pMis_post x4 x5 m5 x15 →
 ((pLim_pre x6 x7 m5) ∧ ∀ m6 : Mem, MemSub m5 m6 → ∀ x16 : Int, mi ≤ x16 → x16 ≤ ma → pLim_post x6 x7 m6 x16 →
 ((pBrk_pre x8 x9 x10 m6) ∧ ∀ m7 : Mem, MemSub m6 m7 → ∀ x17 : Int, mi ≤ x17 → x17 ≤ ma → pBrk_post x8 x9 x10 m7 x17 →
 ((pRet_pre x11 x12 x13 x14 m7) ∧ ∀ m8 : Mem, MemSub m7 m8 → ∀ x18 : Int, mi ≤ x18 → x18 ≤ ma → pRet_post x11 x12 x13 x14 m8 x18 →
 ((x15 = 10 →
 ((K.i64 x15) ∧ pPol_post x0 x1 x2 x3 x4 x5 x6 x7 x8 x9 x10 x11 x12 x13 x14 m8 x15)) ∧
 (x15 ≠ 10 →
 ((x15 ≠ 0 →
 ((x16 = 10 →
 ((K.i64 x16) ∧ pPol_post x0 x1 x2 x3 x4 x5 x6 x7 x8 x9 x10 x11 x12 x13 x14 m8 x16)) ∧
 (x16 ≠ 10 →
 ((x16 ≠ 0 →
 ((x17 = 10 →
 ((K.i64 x17) ∧ pPol_post x0 x1 x2 x3 x4 x5 x6 x7 x8 x9 x10 x11 x12 x13 x14 m8 x17)) ∧
 (x17 ≠ 10 →
 ((x17 ≠ 0 →
 ((x18 = 10 →
 ((K.i64 x18) ∧ pPol_post x0 x1 x2 x3 x4 x5 x6 x7 x8 x9 x10 x11 x12 x13 x14 m8 x18)) ∧
 (x18 ≠ 10 →
 ((x18 ≠ 0 →
 ((K.i64 16) ∧ pPol_post x0 x1 x2 x3 x4 x5 x6 x7 x8 x9 x10 x11 x12 x13 x14 m8 16)) ∧
 (x18 = 0 →
 ((K.i64 16) ∧ pPol_post x0 x1 x2 x3 x4 x5 x6 x7 x8 x9 x10 x11 x12 x13 x14 m8 16)))))) ∧
 (x17 = 0 →
 ((x18 = 10 →
 ((K.i64 x18) ∧ pPol_post x0 x1 x2 x3 x4 x5 x6 x7 x8 x9 x10 x11 x12 x13 x14 m8 x18)) ∧
 (x18 ≠ 10 →
 ((x18 ≠ 0 →
 ((K.i64 16) ∧ pPol_post x0 x1 x2 x3 x4 x5 x6 x7 x8 x9 x10 x11 x12 x13 x14 m8 16)) ∧
 (x18 = 0 →
 ((K.i64 16) ∧ pPol_post x0 x1 x2 x3 x4 x5 x6 x7 x8 x9 x10 x11 x12 x13 x14 m8 16)))))))))) ∧
 (x16 = 0 →
 ((x17 = 10 →
 ((K.i64 x17) ∧ pPol_post x0 x1 x2 x3 x4 x5 x6 x7 x8 x9 x10 x11 x12 x13 x14 m8 x17)) ∧
 (x17 ≠ 10 →
 ((x17 ≠ 0 →
 ((x18 = 10 →
 ((K.i64 x18) ∧ pPol_post x0 x1 x2 x3 x4 x5 x6 x7 x8 x9 x10 x11 x12 x13 x14 m8 x18)) ∧
 (x18 ≠ 10 →
 ((x18 ≠ 0 →
 ((K.i64 16) ∧ pPol_post x0 x1 x2 x3 x4 x5 x6 x7 x8 x9 x10 x11 x12 x13 x14 m8 16)) ∧
 (x18 = 0 →
 ((K.i64 16) ∧ pPol_post x0 x1 x2 x3 x4 x5 x6 x7 x8 x9 x10 x11 x12 x13 x14 m8 16)))))) ∧
 (x17 = 0 →
 ((x18 = 10 →
 ((K.i64 x18) ∧ pPol_post x0 x1 x2 x3 x4 x5 x6 x7 x8 x9 x10 x11 x12 x13 x14 m8 x18)) ∧
 (x18 ≠ 10 →
 ((x18 ≠ 0 →
 ((K.i64 16) ∧ pPol_post x0 x1 x2 x3 x4 x5 x6 x7 x8 x9 x10 x11 x12 x13 x14 m8 16)) ∧
 (x18 = 0 →
 ((K.i64 16) ∧ pPol_post x0 x1 x2 x3 x4 x5 x6 x7 x8 x9 x10 x11 x12 x13 x14 m8 16)))))))))))))) ∧
 (x15 = 0 →
 ((x16 = 10 →
 ((K.i64 x16) ∧ pPol_post x0 x1 x2 x3 x4 x5 x6 x7 x8 x9 x10 x11 x12 x13 x14 m8 x16)) ∧
 (x16 ≠ 10 →
 ((x16 ≠ 0 →
 ((x17 = 10 →
 ((K.i64 x17) ∧ pPol_post x0 x1 x2 x3 x4 x5 x6 x7 x8 x9 x10 x11 x12 x13 x14 m8 x17)) ∧
 (x17 ≠ 10 →
 ((x17 ≠ 0 →
 ((x18 = 10 →
 ((K.i64 x18) ∧ pPol_post x0 x1 x2 x3 x4 x5 x6 x7 x8 x9 x10 x11 x12 x13 x14 m8 x18)) ∧
 (x18 ≠ 10 →
 ((x18 ≠ 0 →
 ((K.i64 16) ∧ pPol_post x0 x1 x2 x3 x4 x5 x6 x7 x8 x9 x10 x11 x12 x13 x14 m8 16)) ∧
 (x18 = 0 →
 ((K.i64 16) ∧ pPol_post x0 x1 x2 x3 x4 x5 x6 x7 x8 x9 x10 x11 x12 x13 x14 m8 16)))))) ∧
 (x17 = 0 →
 ((x18 = 10 →
 ((K.i64 x18) ∧ pPol_post x0 x1 x2 x3 x4 x5 x6 x7 x8 x9 x10 x11 x12 x13 x14 m8 x18)) ∧
 (x18 ≠ 10 →
 ((x18 ≠ 0 →
 ((K.i64 16) ∧ pPol_post x0 x1 x2 x3 x4 x5 x6 x7 x8 x9 x10 x11 x12 x13 x14 m8 16)) ∧
 (x18 = 0 →
 ((K.i64 16) ∧ pPol_post x0 x1 x2 x3 x4 x5 x6 x7 x8 x9 x10 x11 x12 x13 x14 m8 16)))))))))) ∧
 (x16 = 0 →
 ((x17 = 10 →
 ((K.i64 x17) ∧ pPol_post x0 x1 x2 x3 x4 x5 x6 x7 x8 x9 x10 x11 x12 x13 x14 m8 x17)) ∧
 (x17 ≠ 10 →
 ((x17 ≠ 0 →
 ((x18 = 10 →
 ((K.i64 x18) ∧ pPol_post x0 x1 x2 x3 x4 x5 x6 x7 x8 x9 x10 x11 x12 x13 x14 m8 x18)) ∧
 (x18 ≠ 10 →
 ((x18 ≠ 0 →
 ((K.i64 16) ∧ pPol_post x0 x1 x2 x3 x4 x5 x6 x7 x8 x9 x10 x11 x12 x13 x14 m8 16)) ∧
 (x18 = 0 →
 ((K.i64 16) ∧ pPol_post x0 x1 x2 x3 x4 x5 x6 x7 x8 x9 x10 x11 x12 x13 x14 m8 16)))))) ∧
 (x17 = 0 →
 ((x18 = 10 →
 ((K.i64 x18) ∧ pPol_post x0 x1 x2 x3 x4 x5 x6 x7 x8 x9 x10 x11 x12 x13 x14 m8 x18)) ∧
 (x18 ≠ 10 →
 ((x18 ≠ 0 →
 ((K.i64 16) ∧ pPol_post x0 x1 x2 x3 x4 x5 x6 x7 x8 x9 x10 x11 x12 x13 x14 m8 16)) ∧
 (x18 = 0 →
 ((K.i64 0) ∧ pPol_post x0 x1 x2 x3 x4 x5 x6 x7 x8 x9 x10 x11 x12 x13 x14 m8 0)))))))))))))))))))))))))))))))))
theorem pPol_vc : pPol_VC := by
 intro m x0 _ _ x1 _ _ x2 _ _ x3 _ _ x4 _ _ x5 _ _ x6 _ _ x7 _ _ x8 _ _ x9 _ _ x10 _ _ x11 _ _ x12 _ _ x13 _ _ x14 _ _ _
 repeat' first | (refine And.intro ?_ ?_) | intro _
 all_goals first
  | trivial
  | (constructor <;> decide)
  | (constructor <;> assumption)
  | (simp only [inI_post, in64_post, pMis_post, pLim_post, pBrk_post, pRet_post] at *; subst_vars; simp_all [pPol_post, As.polP, As.firstE, As.ruleE, As.inB, As.spanM]; done)
theorem pPol_ok : SpOk Tryz.prog pPol :=
 con_ok (sps_of [in64, inI, pLim, pBrk, pRet, pMis] ⟨in64_ok, ⟨inI_ok, ⟨pLim_ok, ⟨pBrk_ok, ⟨pRet_ok, ⟨pMis_ok, trivial⟩⟩⟩⟩⟩⟩ rfl) (tab_ok _ []) 1000 pPol _ rfl rfl (Eq.mp (show pPol_VC = _ by kernel_rfl) pPol_vc)
end Go.Proofs.YtjabmipkllkfbaaGreatDoor.Vc
