/-
  Contracts, by their trees; AuditCaps: the walk, the row, the card.
-/
import Derived.Test.YtfpfagmmdiohbaaGreatDoorWP
import Derived.Test.YtfpfagmmdiohbaaGreatDoorWQ
import Derived.Test.YtfpfagmmdiohbaaGreatDoorWCa
import Derived.Test.YtfpfagmmdiohbaaGreatDoorWR
set_option linter.unusedVariables false
set_option linter.unusedSimpArgs false
set_option linter.unusedVariables false
set_option linter.unusedSimpArgs false
namespace Go.Proofs.YtfpfagmmdiohbaaGreatDoor.Vc

def eqEv_pre (p : Option Addr) (n c : Nat) (p1 : Option Addr) (n1 c1 : Nat) (m : Mem) : Prop := ∃ l, EvsAt m p n l ∧ EvsAt m p1 n1 l
def eqEv_post (p : Option Addr) (n c : Nat) (p1 : Option Addr) (n1 c1 : Nat) (m : Mem) (b : Bool) : Prop := b = true
def eqEv : Sp := { args := [.sl, .sl], grp := [none, none], res := [.b], rgrp := [none], fn := 24, spec := fun a0 a1 a2 a3 a4 a5 => (eqEv_pre a0 a1 a2 a3 a4 a5, eqEv_post a0 a1 a2 a3 a4 a5) }
def eqEv_VC : Prop := ∀ m : Mem, ∀ (p0 : Option Addr) (n0 c0 : Nat), n0 ≤ 9223372036854775807 → c0 ≤ 9223372036854775807 → ∀ (p1 : Option Addr) (n1 c1 : Nat), n1 ≤ 9223372036854775807 → c1 ≤ 9223372036854775807 → eqEv_pre p0 n0 c0 p1 n1 c1 m →
 (((n0 : Int) ≠ (n1 : Int) →
 (eqEv_post p0 n0 c0 p1 n1 c1 m false)) ∧
 ((n0 : Int) = (n1 : Int) →
 (∃ F1 : Bool → Int → Prop × Nat, ((K.i64 0) ∧ (F1 false 0).1) ∧
 ∀ b0 : Bool, ∀ x4 : Int, IntKind.i64.min ≤ x4 → x4 ≤ IntKind.i64.max → (F1 b0 x4).1 →
 ((x4 < (n0 : Int) →
 (0 ≤ x4 ∧ (p0 ≠ none ∧ (HasI m p0 (0 + (x4 * 8)) 8 ∧ (0 ≤ x4 ∧ (x4 < (n1 : Int) ∧ (p1 ≠ none ∧ (HasI m p1 (0 + (x4 * 8)) 8 ∧ (∃ x5 : Int, cellI m p0 (0 + (x4 * 8)) = some (Value.int IntKind.i64 x5) ∧ (K.i64 x5) ∧ (∃ x6 : Int, cellI m p1 (0 + (x4 * 8)) = some (Value.int IntKind.i64 x6) ∧ (K.i64 x6) ∧ (∃ x7 : Int, cellI m p0 ((0 + (x4 * 8)) + 1) = some (Value.int IntKind.i64 x7) ∧ (K.i64 x7) ∧ (∃ x8 : Int, cellI m p1 ((0 + (x4 * 8)) + 1) = some (Value.int IntKind.i64 x8) ∧ (K.i64 x8) ∧ (∃ x9 : Int, cellI m p0 ((0 + (x4 * 8)) + 2) = some (Value.int IntKind.i64 x9) ∧ (K.i64 x9) ∧ (∃ x10 : Int, cellI m p1 ((0 + (x4 * 8)) + 2) = some (Value.int IntKind.i64 x10) ∧ (K.i64 x10) ∧ (∃ x11 : Int, cellI m p0 ((0 + (x4 * 8)) + 3) = some (Value.int IntKind.i64 x11) ∧ (K.i64 x11) ∧ (∃ x12 : Int, cellI m p1 ((0 + (x4 * 8)) + 3) = some (Value.int IntKind.i64 x12) ∧ (K.i64 x12) ∧ (∃ x13 : Int, cellI m p0 ((0 + (x4 * 8)) + 4) = some (Value.int IntKind.i64 x13) ∧ (K.i64 x13) ∧ (∃ x14 : Int, cellI m p1 ((0 + (x4 * 8)) + 4) = some (Value.int IntKind.i64 x14) ∧ (K.i64 x14) ∧ (∃ x15 : Int, cellI m p0 ((0 + (x4 * 8)) + 5) = some (Value.int IntKind.i64 x15) ∧ (K.i64 x15) ∧ (∃ x16 : Int, cellI m p1 ((0 + (x4 * 8)) + 5) = some (Value.int IntKind.i64 x16) ∧ (K.i64 x16) ∧ (∃ x17 : Int, cellI m p0 ((0 + (x4 * 8)) + 6) = some (Value.int IntKind.i64 x17) ∧ (K.i64 x17) ∧ (∃ x18 : Int, cellI m p1 ((0 + (x4 * 8)) + 6) = some (Value.int IntKind.i64 x18) ∧ (K.i64 x18) ∧ (∃ x19 : Int, cellI m p0 ((0 + (x4 * 8)) + 7) = some (Value.int IntKind.i64 x19) ∧ (K.i64 x19) ∧ (∃ x20 : Int, cellI m p1 ((0 + (x4 * 8)) + 7) = some (Value.int IntKind.i64 x20) ∧ (K.i64 x20) ∧ (((x5 = x6 → (x7 = x8 → (x9 = x10 → (x11 = x12 → (x13 = x14 → (x15 = x16 → (x17 = x18 → x19 ≠ x20))))))) →
 (eqEv_post p0 n0 c0 p1 n1 c1 m false)) ∧
 ((x5 = x6 ∧ (x7 = x8 ∧ (x9 = x10 ∧ (x11 = x12 ∧ (x13 = x14 ∧ (x15 = x16 ∧ (x17 = x18 ∧ x19 = x20))))))) →
 ((x4 + 1) ≤ 9223372036854775807 ∧ ((IntKind.i64.min ≤ (x4 + 1) ∧ (x4 + 1) ≤ IntKind.i64.max) ∧ ((F1 b0 (x4 + 1)).1 ∧ (F1 b0 (x4 + 1)).2 < (F1 b0 x4).2))))))))))))))))))))))))))))) ∧
 ((n0 : Int) ≤ x4 →
 (eqEv_post p0 n0 c0 p1 n1 c1 m true))))))
set_option maxHeartbeats 4000000 in
theorem eqEv_vc : eqEv_VC := by
  intro m p n c hn hc p1 n1 c1 hn1 hc1 ⟨l, h1, h2⟩
  have e1 := h1.1
  have e2 := h2.1
  refine ⟨fun h => absurd (by omega) h, fun _ => ⟨fun b y => (0 ≤ y, ((n : Int) - y).toNat), ⟨by constructor <;> decide, Int.le_refl 0⟩, ?_⟩⟩
  intro b y ky1 ky2 h0
  refine ⟨fun hlt => ?_, fun _ => rfl⟩
  obtain ⟨x, hx, q1, a, ha⟩ := h1.at_ h0 hlt
  obtain ⟨x', hx', q2, b', hb⟩ := h2.at_ h0 (by omega)
  rw [hx] at hx'; cases hx'
  refine ⟨h0, q1, ha, h0, by omega, q2, hb, _, a.1.1, a.1.2, _, b'.1.1, b'.1.2, _, a.2.1.1, a.2.1.2, _, b'.2.1.1, b'.2.1.2, _, a.2.2.1.1, a.2.2.1.2, _, b'.2.2.1.1, b'.2.2.1.2, _, a.2.2.2.1.1, a.2.2.2.1.2, _, b'.2.2.2.1.1, b'.2.2.2.1.2, _, a.2.2.2.2.1.1, a.2.2.2.2.1.2, _, b'.2.2.2.2.1.1, b'.2.2.2.2.1.2, _, a.2.2.2.2.2.1.1, a.2.2.2.2.2.1.2, _, b'.2.2.2.2.2.1.1, b'.2.2.2.2.2.1.2, _, a.2.2.2.2.2.2.1.1, a.2.2.2.2.2.2.1.2, _, b'.2.2.2.2.2.2.1.1, b'.2.2.2.2.2.2.1.2, _, a.2.2.2.2.2.2.2.1, a.2.2.2.2.2.2.2.2, _, b'.2.2.2.2.2.2.2.1, b'.2.2.2.2.2.2.2.2, fun h => absurd rfl (h rfl rfl rfl rfl rfl rfl rfl), fun _ => ⟨by omega, k64 (by omega) (by omega), ?_, ?_⟩⟩
  · show 0 ≤ y + 1; have : 0 ≤ y := h0; omega
  · show ((n : Int) - (y + 1)).toNat < ((n : Int) - y).toNat; omega
theorem eqEv_ok : SpOk Tryz.prog eqEv :=
  con_ok (sps_of [] trivial rfl) (tab_ok _ [⟨(26, 4), [], [], [], []⟩]) 1000 eqEv _ rfl rfl (Eq.mp (show eqEv_VC = _ by kernel_rfl) eqEv_vc)

def lCap_pre (a b c d s t u : Int) (p : Option Addr) (n cc : Nat) (p1 : Option Addr) (n1 c1 : Nat) (m : Mem) : Prop := (Globs m glSp ∧ Globs m glMx) ∧ ∃ L l, JobsAt m p n L ∧ EvsAt m p1 n1 l
def lCap_post (a b c d s t u : Int) (p : Option Addr) (n cc : Nat) (p1 : Option Addr) (n1 c1 : Nat) (m : Mem) (b : Bool) : Prop := b = true
def lCap : Sp := { args := [.i .i64, .i .i64, .i .i64, .i .i64, .i .u64, .i .i64, .i .i64, .sl, .sl], grp := [some 8, none], res := [.b], rgrp := [none], fn := 6, spec := fun a0 a1 a2 a3 a4 a5 a6 a7 a8 a9 a10 a11 a12 => (lCap_pre a0 a1 a2 a3 a4 a5 a6 a7 a8 a9 a10 a11 a12, lCap_post a0 a1 a2 a3 a4 a5 a6 a7 a8 a9 a10 a11 a12) }
def lCap_VC : Prop := ∀ m : Mem, ∀ x0 : Int, IntKind.i64.min ≤ x0 → x0 ≤ IntKind.i64.max → ∀ x1 : Int, IntKind.i64.min ≤ x1 → x1 ≤ IntKind.i64.max → ∀ x2 : Int, IntKind.i64.min ≤ x2 → x2 ≤ IntKind.i64.max → ∀ x3 : Int, IntKind.i64.min ≤ x3 → x3 ≤ IntKind.i64.max → ∀ x4 : Int, IntKind.u64.min ≤ x4 → x4 ≤ IntKind.u64.max → ∀ x5 : Int, IntKind.i64.min ≤ x5 → x5 ≤ IntKind.i64.max → ∀ x6 : Int, IntKind.i64.min ≤ x6 → x6 ≤ IntKind.i64.max → ∀ (p0 : Option Addr) (n0 c0 : Nat), n0 ≤ 9223372036854775807 → c0 ≤ 9223372036854775807 → ∀ (p1 : Option Addr) (n1 c1 : Nat), n1 ≤ 9223372036854775807 → c1 ≤ 9223372036854775807 → lCap_pre x0 x1 x2 x3 x4 x5 x6 p0 n0 c0 p1 n1 c1 m →
 ((n0 ≤ 9223372036854775807 ∧ c0 ≤ 9223372036854775807) ∧ (n1 ≤ 9223372036854775807 ∧ c1 ≤ 9223372036854775807) ∧ few_pre x0 x1 x2 x3 x4 x5 x6 (p0.map fun p => p.add 0) n0 c0 (p1.map fun p => p.add 0) n1 c1 m ∧ ∀ m1 : Mem, MemSub m m1 → ∀ b0 : Bool, few_post x0 x1 x2 x3 x4 x5 x6 (p0.map fun p => p.add 0) n0 c0 (p1.map fun p => p.add 0) n1 c1 m1 b0 →
 ((b0 = false →
 (wrk_pre  m1 ∧ ∀ m2 : Mem, MemSub m1 m2 → ∀ b1 : Bool, wrk_post  m2 b1 →
 (lCap_post x0 x1 x2 x3 x4 x5 x6 p0 n0 c0 p1 n1 c1 m2 b1))) ∧
 (b0 = true →
 ((n1 ≤ 9223372036854775807 ∧ c1 ≤ 9223372036854775807) ∧ clE_pre (p1.map fun p => p.add 0) n1 c1 m1 ∧ ∀ m2 : Mem, MemSub m1 m2 → ∀ (p2 : Option Addr) (n2 c2 : Nat), n2 ≤ 9223372036854775807 → c2 ≤ 9223372036854775807 → clE_post (p1.map fun p => p.add 0) n1 c1 m2 p2 n2 c2 →
 ((n0 ≤ 9223372036854775807 ∧ c0 ≤ 9223372036854775807) ∧ (n2 ≤ 9223372036854775807 ∧ c2 ≤ 9223372036854775807) ∧ aCap_pre x0 x1 x2 x3 x4 x5 x6 (p0.map fun p => p.add 0) n0 c0 (p2.map fun p => p.add 0) n2 c2 m2 ∧ ∀ m3 : Mem, MemSub m2 m3 → ∀ (p3 : Option Addr) (n3 c3 : Nat), n3 ≤ 9223372036854775807 → c3 ≤ 9223372036854775807 → ∀ x15 : Int, IntKind.i64.min ≤ x15 → x15 ≤ IntKind.i64.max → aCap_post x0 x1 x2 x3 x4 x5 x6 (p0.map fun p => p.add 0) n0 c0 (p2.map fun p => p.add 0) n2 c2 m3 p3 n3 c3 x15 →
 ((n0 ≤ 9223372036854775807 ∧ c0 ≤ 9223372036854775807) ∧ (n1 ≤ 9223372036854775807 ∧ c1 ≤ 9223372036854775807) ∧ rCap_pre x0 x1 x2 x3 x4 x5 x6 (p0.map fun p => p.add 0) n0 c0 (p1.map fun p => p.add 0) n1 c1 m3 ∧ ∀ m4 : Mem, MemSub m3 m4 → ∀ (p4 : Option Addr) (n4 c4 : Nat), n4 ≤ 9223372036854775807 → c4 ≤ 9223372036854775807 → ∀ x18 : Int, IntKind.i64.min ≤ x18 → x18 ≤ IntKind.i64.max → rCap_post x0 x1 x2 x3 x4 x5 x6 (p0.map fun p => p.add 0) n0 c0 (p1.map fun p => p.add 0) n1 c1 m4 p4 n4 c4 x18 →
 ((n0 ≤ 9223372036854775807 ∧ c0 ≤ 9223372036854775807) ∧ (n2 ≤ 9223372036854775807 ∧ c2 ≤ 9223372036854775807) ∧ aBrk_pre x0 x1 x2 x3 x4 x5 x6 (p0.map fun p => p.add 0) n0 c0 (p2.map fun p => p.add 0) n2 c2 m4 ∧ ∀ m5 : Mem, MemSub m4 m5 → ∀ (p5 : Option Addr) (n5 c5 : Nat), n5 ≤ 9223372036854775807 → c5 ≤ 9223372036854775807 → ∀ x21 : Int, IntKind.i64.min ≤ x21 → x21 ≤ IntKind.i64.max → aBrk_post x0 x1 x2 x3 x4 x5 x6 (p0.map fun p => p.add 0) n0 c0 (p2.map fun p => p.add 0) n2 c2 m5 p5 n5 c5 x21 →
 ((n0 ≤ 9223372036854775807 ∧ c0 ≤ 9223372036854775807) ∧ (n1 ≤ 9223372036854775807 ∧ c1 ≤ 9223372036854775807) ∧ rBkr_pre x0 x1 x2 x3 x4 x5 x6 (p0.map fun p => p.add 0) n0 c0 (p1.map fun p => p.add 0) n1 c1 m5 ∧ ∀ m6 : Mem, MemSub m5 m6 → ∀ (p6 : Option Addr) (n6 c6 : Nat), n6 ≤ 9223372036854775807 → c6 ≤ 9223372036854775807 → ∀ x24 : Int, IntKind.i64.min ≤ x24 → x24 ≤ IntKind.i64.max → rBkr_post x0 x1 x2 x3 x4 x5 x6 (p0.map fun p => p.add 0) n0 c0 (p1.map fun p => p.add 0) n1 c1 m6 p6 n6 c6 x24 →
 ((n3 ≤ 9223372036854775807 ∧ c3 ≤ 9223372036854775807) ∧ (n4 ≤ 9223372036854775807 ∧ c4 ≤ 9223372036854775807) ∧ eqF_pre (p3.map fun p => p.add 0) n3 c3 (p4.map fun p => p.add 0) n4 c4 m6 ∧ ∀ m7 : Mem, MemSub m6 m7 → ∀ b1 : Bool, eqF_post (p3.map fun p => p.add 0) n3 c3 (p4.map fun p => p.add 0) n4 c4 m7 b1 →
 ((b1 = true →
 ((x15 = x18 →
 ((n5 ≤ 9223372036854775807 ∧ c5 ≤ 9223372036854775807) ∧ (n6 ≤ 9223372036854775807 ∧ c6 ≤ 9223372036854775807) ∧ eqF_pre (p5.map fun p => p.add 0) n5 c5 (p6.map fun p => p.add 0) n6 c6 m7 ∧ ∀ m8 : Mem, MemSub m7 m8 → ∀ b2 : Bool, eqF_post (p5.map fun p => p.add 0) n5 c5 (p6.map fun p => p.add 0) n6 c6 m8 b2 →
 ((b2 = true →
 ((x21 = x24 →
 ((n2 ≤ 9223372036854775807 ∧ c2 ≤ 9223372036854775807) ∧ (n1 ≤ 9223372036854775807 ∧ c1 ≤ 9223372036854775807) ∧ eqEv_pre (p2.map fun p => p.add 0) n2 c2 (p1.map fun p => p.add 0) n1 c1 m8 ∧ ∀ m9 : Mem, MemSub m8 m9 → ∀ b3 : Bool, eqEv_post (p2.map fun p => p.add 0) n2 c2 (p1.map fun p => p.add 0) n1 c1 m9 b3 →
 ((b3 = true →
 (wrk_pre  m9 ∧ ∀ m10 : Mem, MemSub m9 m10 → ∀ b4 : Bool, wrk_post  m10 b4 →
 (lCap_post x0 x1 x2 x3 x4 x5 x6 p0 n0 c0 p1 n1 c1 m10 b4))) ∧
 (b3 = false →
 (lCap_post x0 x1 x2 x3 x4 x5 x6 p0 n0 c0 p1 n1 c1 m9 false))))) ∧
 (x21 ≠ x24 →
 (lCap_post x0 x1 x2 x3 x4 x5 x6 p0 n0 c0 p1 n1 c1 m8 false)))) ∧
 (b2 = false →
 (lCap_post x0 x1 x2 x3 x4 x5 x6 p0 n0 c0 p1 n1 c1 m8 false))))) ∧
 (x15 ≠ x18 →
 (lCap_post x0 x1 x2 x3 x4 x5 x6 p0 n0 c0 p1 n1 c1 m7 false)))) ∧
 (b1 = false →
 (lCap_post x0 x1 x2 x3 x4 x5 x6 p0 n0 c0 p1 n1 c1 m7 false))))))))))))
set_option maxHeartbeats 4000000 in
theorem lCap_vc : lCap_VC := by
  intro m x0 _ _ x1 _ _ x2 _ _ x3 _ _ x4 _ _ x5 _ _ x6 _ _ p n c hn hc p1 n1 c1 hn1 hc1 ⟨⟨hgl, hgx⟩, L, l, hL, hl⟩
  simp only [map_add0]
  refine ⟨⟨hn, hc⟩, ⟨hn1, hc1⟩, ⟨L, hL⟩, fun m1 hm1 b0 hb0 => ⟨fun _ => ⟨Globs.sub hm1 hgx, fun m2 hm2 b1 hb1 => hb1⟩, fun hbt => ?_⟩⟩
  have h100 : n1 ≤ 100 := hb0 hbt
  have hL1 := hL.sub hm1
  have hl1 := hl.sub hm1
  refine ⟨⟨hn1, hc1⟩, ⟨l, hl1, by omega⟩, fun m2 hm2 p2 n2 c2 hn2 hc2 hcl => ?_⟩
  have hL2 := hL1.sub hm2
  have hl2 := hl1.sub hm2
  have hk2 : EvsAt m2 p2 n2 l := hcl l hl2
  have e12 : n2 = n1 := by rw [← hk2.1, ← hl2.1]
  have hlen := hl.1
  refine ⟨⟨hn, hc⟩, ⟨hn2, hc2⟩, ⟨⟨Globs.sub (hm1.trans hm2) hgl, by omega⟩, L, l, hL2, hk2⟩, fun m3 hm3 p3 n3 c3 hn3 hc3 z3 _ _ ha => ?_⟩
  have hL3 := hL2.sub hm3
  have hl3 := hl2.sub hm3
  have hk3 := hk2.sub hm3
  obtain ⟨a1, a2, a3⟩ := ha L l hL3 hk3
  refine ⟨⟨hn, hc⟩, ⟨hn1, hc1⟩, ⟨by omega, L, l, hL3, hl3⟩, fun m4 hm4 p4 n4 c4 hn4 hc4 z4 _ _ hr => ?_⟩
  have hL4 := hL3.sub hm4
  have hl4 := hl3.sub hm4
  have hk4 := hk3.sub hm4
  obtain ⟨r1, r2, r3⟩ := hr L l hL4 hl4
  refine ⟨⟨hn, hc⟩, ⟨hn2, hc2⟩, ⟨⟨Globs.sub (((hm1.trans hm2).trans hm3).trans hm4) hgl, by omega⟩, L, l, hL4, hk4⟩, fun m5 hm5 p5 n5 c5 hn5 hc5 z5 _ _ hb => ?_⟩
  have hL5 := hL4.sub hm5
  have hl5 := hl4.sub hm5
  have hk5 := hk4.sub hm5
  obtain ⟨b1, b2, b3⟩ := hb L l hL5 hk5
  refine ⟨⟨hn, hc⟩, ⟨hn1, hc1⟩, ⟨by omega, L, l, hL5, hl5⟩, fun m6 hm6 p6 n6 c6 hn6 hc6 z6 _ _ hs => ?_⟩
  have hL6 := hL5.sub hm6
  have hl6 := hl5.sub hm6
  have hk6 := hk5.sub hm6
  obtain ⟨s1, s2, s3⟩ := hs L l hL6 hl6
  have m36 := (hm4.trans hm5).trans hm6
  refine ⟨⟨hn3, hc3⟩, ⟨hn4, hc4⟩, ⟨2, _, by constructor <;> decide, a3, r3, a2.sub m36, r2.sub (hm5.trans hm6), fun i hi => by have := auI_le hi; omega⟩, fun m7 hm7 b7 hb7 => ⟨fun _ => ⟨fun _ => ?_, fun hne => absurd (by rw [a1, r1]) hne⟩, fun hf => ?_⟩⟩
  rotate_left
  · have hb7 : b7 = true := hb7
    rw [hf] at hb7; cases hb7
  refine ⟨⟨hn5, hc5⟩, ⟨hn6, hc6⟩, ⟨4, _, by constructor <;> decide, b3, s3, (b2.sub hm6).sub hm7, s2.sub hm7, fun i hi => by have := auI_le hi; omega⟩, fun m8 hm8 b8 hb8 => ⟨fun _ => ⟨fun _ => ?_, fun hne => absurd (by rw [b1, s1]) hne⟩, fun hf => ?_⟩⟩
  rotate_left
  · have hb8 : b8 = true := hb8
    rw [hf] at hb8; cases hb8
  refine ⟨⟨hn2, hc2⟩, ⟨hn1, hc1⟩, ⟨l, (hk6.sub hm7).sub hm8, (hl6.sub hm7).sub hm8⟩, fun m9 hm9 b9 hb9 => ⟨fun _ => ⟨Globs.sub ((((((hm1.trans hm2).trans hm3).trans m36).trans hm7).trans hm8).trans hm9) hgx, fun m10 _ b10 hb10 => hb10⟩, fun hf => ?_⟩⟩
  have hb9 : b9 = true := hb9
  rw [hf] at hb9; cases hb9
theorem lCap_pg : ∀ m, forallF lCap.args lCap.spec fun r => r.1 m → GlobsAt m [] := fun m a b c d s t u p n cc p1 n1 c1 h => trivial
theorem lCap_ok : SpOk Tryz.prog lCap :=
  con_ok (sps_of [few, clE, aCap, rCap, aBrk, rBkr, eqF, eqEv, wrk] ⟨few_ok, ⟨clE_ok, ⟨aCap_ok, ⟨rCap_ok, ⟨aBrk_ok, ⟨rBkr_ok, ⟨eqF_ok, ⟨eqEv_ok, ⟨wrk_ok, trivial⟩⟩⟩⟩⟩⟩⟩⟩⟩ rfl) (tab_ok _ []) 1000 lCap _ rfl rfl (Eq.mp (show lCap_VC = _ by kernel_rfl) lCap_vc)

end Go.Proofs.YtfpfagmmdiohbaaGreatDoor.Vc
set_option linter.unusedVariables false
set_option linter.unusedSimpArgs false
set_option linter.unusedVariables false
set_option linter.unusedSimpArgs false
namespace Go.Proofs.YtfpfagmmdiohbaaGreatDoor.auditCaps
open Go.ChangeShapes Go.WideShapes Go.ChangeAt Go.RowKit

-- AuditCaps: the contract of the law, at a world.
open Vc in
theorem walk (x0 x1 x2 x3 x4 x5 x6 : Int) (A : Option Addr) (n c : Nat) (B : Option Addr) (k d : Nat) (hk : K.i64 x0 ∧ K.i64 x1 ∧ K.i64 x2 ∧ K.i64 x3 ∧ (IntKind.u64.min ≤ x4 ∧ x4 ≤ IntKind.u64.max) ∧ K.i64 x5 ∧ K.i64 x6) (hn : n ≤ c) (hc : c ≤ maxLen) (hk1 : k ≤ d) (hd : d ≤ maxLen) (W : World) (hT : VRow.VTabs W) (hs : ∃ L, JobsAt (memW W) A n L) (hs1 : ∃ l, EvsAt (memW W) B k l) :
    Calls Tryz.prog 6 #[.agg #[.int .i64 x0, .int .i64 x1, .int .i64 x2, .int .i64 x3, .int .u64 x4, .int .i64 x5, .int .i64 x6, .slice A n c], .slice B k d] W fun e W' => e = .returned (.bool true) ∧ Below W.heap.size W W' := by
  obtain ⟨L, hL⟩ := hs
  obtain ⟨l, hl⟩ := hs1
  obtain ⟨h0, h1, h2, h3, h4, h5, h6⟩ := hk
  have hm : maxLen = 9223372036854775807 := rfl
  have := lCap_ok (memW W) W [.int .i64 x0, .int .i64 x1, .int .i64 x2, .int .i64 x3, .int .u64 x4, .int .i64 x5, .int .i64 x6, .slice A n c, .slice B k d] _ (fun _ _ h => h) rfl
    ⟨rfl, h0, rfl, h1, rfl, h2, rfl, h3, rfl, h4, rfl, h5, rfl, h6, ⟨by omega, by omega⟩, ⟨by omega, by omega⟩, ⟨⟨hT.sp, hT.mx⟩, L, l, hL, hl⟩⟩
  refine this.mono fun e W' h => ?_
  obtain ⟨m', rs, rs', rfl, hp, hb, _, _, hr⟩ := h
  refine ⟨?_, hb⟩
  obtain ⟨_, _, _, _, _, _, _, _, _, _, _, _, _, _, _, _, hr⟩ := hr
  match rs, hp, hr with
  | [.bool b], hp, hr =>
    have hb : b = true := hr
    cases hp
    rw [hb]; rfl

set_option maxRecDepth 100000 in
theorem contract (H : Type) (enc : TypeId × Value → H) (W : World) (base : Nat) (args : Array Value) (ds gs : List (DataW H)) (before : List MemPlace)
    (hval : ∀ (j : Nat) t v, Tryz.f6.params[j]? = some t → args[j]? = some v → Value.okWide Tryz.prog W .any base t v)
    (hW : DataW.Whole enc Tryz.prog Tryz.f6.params.toList Rows.auditCapsSpec.vars false W args.toList ds gs before) (hL : laidMetH Tryz.prog Rows.auditCapsRow.laid W) (hS : W.ShapedOpen Tryz.prog) :
    Calls Tryz.prog 6 args W fun e W' => ∃ v, e = .returned v ∧ Rows.auditCapsSpec.post enc Tryz.prog Tryz.f6 false true false false W args v W' := by
  have hT : VRow.VTabs W := VRow.tabs_of hL hS
  have hW' := hW
  obtain ⟨p, q, hA0, hV, rfl, hfz, hnd⟩ := hW
  have hA : DataW.TrodAll enc Tryz.prog W 0 (fun _ => true) true Tryz.f6.params.toList args.toList ds p := hA0
  rw [Tryz.params6] at hA hval
  obtain ⟨v0, vs0, d0, ds0, p0, q0, hargs, rfl, rfl, h0, r0⟩ := trodAll_cons hA
  obtain ⟨v1, vs1, d1, ds1, p1, q1, rfl, rfl, rfl, h1, r1⟩ := trodAll_cons r0
  obtain ⟨rfl, rfl, rfl⟩ := trodAll_nil r1
  obtain rfl : args = #[v0, v1] := by cases args; simp_all
  obtain ⟨rfl, rfl⟩ := trodVars_none hV
  have h0k := h0
  obtain ⟨x00, x01, x02, x03, x04, x05, x06, A0, n0, c0, rfl, hk0, hn0, hc0, hs0⟩ := VRow.open_cfg (hval 0 29 v0 rfl rfl) h0
  have h1k := h1
  obtain ⟨A1, n1, c1, rfl, hn1, hc1, hs1⟩ := VRow.open_events (hval 1 30 v1 rfl rfl) h1
  clear hA0
  simp only [List.append_nil] at hW'
  refine (walk x00 x01 x02 x03 x04 x05 x06 A0 n0 c0 A1 n1 c1 hk0 hn0 hc0 hn1 hc1 W hT hs0 hs1).mono fun e W' ⟨he, hb⟩ => ?_
  subst he
  exact ⟨_, rfl, _, _, _, [], _, [], hW', trodAll_cons_mk (shut_bool Tryz.underlying4 _) trodAll_mk0, (trodAll_cons_mk (Below.trod (by kernel_rfl) (by kernel_rfl) (of_decide_eq_true (by kernel_rfl)) h0k hb (fun x hx => hW'.lt x (by first | (simpa using hx; done) | (simp [hx]; done)))) (trodAll_cons_mk (Below.trod (by kernel_rfl) (by kernel_rfl) (of_decide_eq_true (by kernel_rfl)) h1k hb (fun x hx => hW'.lt x (by first | (simpa using hx; done) | (simp [hx]; done)))) trodAll_mk0)), rfl, hb.frame _, fun h => by cases h⟩

set_option maxRecDepth 100000 in
theorem lifted (os : Os) (started : os.Started) (H : Type) (enc : TypeId × Value → H) (F : Stop.Interp) :
    ReturnsInHanded {} Tryz.checked os 6 .any ((OpenSpec.ofChange Rows.auditCapsSpec).preRow enc Tryz.prog Tryz.f6 Rows.auditCapsRow.domain false Rows.auditCapsRow.laid) (((OpenSpec.ofChange Rows.auditCapsSpec).at F).post enc Tryz.prog Tryz.f6 false true false false) := by
  refine returnsInHanded_of_row (C := Tryz.checked) (s := OpenSpec.ofChange Rows.auditCapsSpec) VRow.own started (by kernel_rfl) Tryz.func6
    (ChangeSpec.witness_shaped (enc := enc) (C := Tryz.checked) (os := os) (X := fun w _ => laidMetH Tryz.prog VRow.laidL w) false (World.laidAll Tryz.prog os VRow.laidL) #[.agg #[.int .i64 0, .int .i64 0, .int .i64 0, .int .i64 0, .int .u64 0, .int .i64 0, .int .i64 0, .slice none 0 0], .slice none 0 0] 8 (World.laidAll_os _ _ _)
      (VRow.wit_shaped os _) (by kernel_rfl) (by kernel_rfl) (by kernel_rfl) (VRow.wit_laid os _)) ?_
  intro W base args ds gs before hval hW _ _ _ hL hS _
  exact contract H enc W base args ds gs before hval hW hL hS

end Go.Proofs.YtfpfagmmdiohbaaGreatDoor.auditCaps
