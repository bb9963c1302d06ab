/-
  Contracts, by their trees; Contracts, by their trees; Jobs in the memory that nobody writes; What an argument of a statement holds: its cells, one by one; the rows behind its slices.
-/
import Derived.Test.YtjabmipkllkfbaaGreatDoorYL
import Derived.Test.YtjabmipkllkfbaaGreatDoorYI
import Derived.WideShapes
import Derived.ChangeArms
import Derived.DataReads
import Derived.Lib.LaidTab
import Derived.Lib.LaidU8
set_option linter.unusedVariables false
set_option linter.unusedSimpArgs false
namespace Go.Proofs.YtjabmipkllkfbaaGreatDoor.Vc
def planE (k a b c d e f : Int) (x y : Bool) (z s t u : Int) (S : List (Int × Int)) : Int :=
 if (k = 0 ∧ S.length = 0 ∧ (s = 0 ∧ t = 0 ∧ u = 0) ∧ (a = 0 ∧ b = 0 ∧ c = 0 ∧ d = 0 ∧ e = 0 ∧ f = 0 ∧ x = false ∧ y = false) ∧ z = 0 ∧ spansE S = 0)
  ∨ (k = 1 ∧ (s = 0 ∧ t = 0 ∧ u = 0) ∧ exprE a b c d e f x y = 0 ∧ zoneE z = 0 ∧ spansE S = 0)
  ∨ (k = 2 ∧ (a = 0 ∧ b = 0 ∧ c = 0 ∧ d = 0 ∧ e = 0 ∧ f = 0 ∧ x = false ∧ y = false) ∧ z = 0 ∧ evyE s t u = 0 ∧ spansE S = 0) then 0 else 16
def plChk_pre (k a b c d e f : Int) (x y : Bool) (z s t u : Int) (p : Option Addr) (n cc : Nat) (m : Mem) : Prop := Globs m glSp ∧ ∃ S, SpansAt m p n S
def plChk_post (k a b c d e f : Int) (x y : Bool) (z s t u : Int) (p : Option Addr) (n cc : Nat) (m : Mem) (r : Int) : Prop := ∀ S, SpansAt m p n S → r = planE k a b c d e f x y z s t u S
def plChk : Sp := { args := [.i .i64, .i .u64, .i .u64, .i .u64, .i .u64, .i .u64, .i .u64, .b, .b, .i .i64, .i .i64, .i .i64, .i .i64, .sl], grp := [some 14], res := [.i .i64], rgrp := [none], fn := 81, spec := fun a0 a1 a2 a3 a4 a5 a6 a7 a8 a9 a10 a11 a12 a13 a14 a15 => (plChk_pre a0 a1 a2 a3 a4 a5 a6 a7 a8 a9 a10 a11 a12 a13 a14 a15, plChk_post a0 a1 a2 a3 a4 a5 a6 a7 a8 a9 a10 a11 a12 a13 a14 a15) }
def plChk_VC : Prop := ∀ m : Mem, ∀ x0 : Int, mi ≤ x0 → x0 ≤ ma → ∀ x1 : Int, IntKind.u64.min ≤ x1 → x1 ≤ IntKind.u64.max → ∀ x2 : Int, IntKind.u64.min ≤ x2 → x2 ≤ IntKind.u64.max → ∀ x3 : Int, IntKind.u64.min ≤ x3 → x3 ≤ IntKind.u64.max → ∀ x4 : Int, IntKind.u64.min ≤ x4 → x4 ≤ IntKind.u64.max → ∀ x5 : Int, IntKind.u64.min ≤ x5 → x5 ≤ IntKind.u64.max → ∀ x6 : Int, IntKind.u64.min ≤ x6 → x6 ≤ IntKind.u64.max → ∀ b0 : Bool, ∀ b1 : Bool, ∀ x7 : Int, mi ≤ x7 → x7 ≤ ma → ∀ x8 : Int, mi ≤ x8 → x8 ≤ ma → ∀ x9 : Int, mi ≤ x9 → x9 ≤ ma → ∀ x10 : Int, mi ≤ x10 → x10 ≤ ma → ∀ (p0 : Option Addr) (n0 c0 : Nat), n0 ≤ 9223372036854775807 → c0 ≤ 9223372036854775807 → plChk_pre x0 x1 x2 x3 x4 x5 x6 b0 b1 x7 x8 x9 x10 p0 n0 c0 m →
 ((x0 = 0 →
 (((n0 : Int) = 0 →
 (((x8 = 0 ∧ (x9 = 0 ∧ x10 = 0)) →
 (((x1 = 0 ∧ (x2 = 0 ∧ (x3 = 0 ∧ (x4 = 0 ∧ (x5 = 0 ∧ (x6 = 0 ∧ (b0 = false ∧ b1 = false))))))) →
 ((x7 ≠ 0 →
 ((K.i64 16) ∧ plChk_post x0 x1 x2 x3 x4 x5 x6 b0 b1 x7 x8 x9 x10 p0 n0 c0 m 16)) ∧
 (x7 = 0 →
 ((n0 ≤ 9223372036854775807 ∧ c0 ≤ 9223372036854775807) ∧ bChk_pre (p0.map fun p => p.add 0) n0 c0 m ∧ ∀ m1 : Mem, MemSub m m1 → ∀ x13 : Int, mi ≤ x13 → x13 ≤ ma → bChk_post (p0.map fun p => p.add 0) n0 c0 m1 x13 →
 ((x13 ≠ 0 →
 ((K.i64 16) ∧ plChk_post x0 x1 x2 x3 x4 x5 x6 b0 b1 x7 x8 x9 x10 p0 n0 c0 m1 16)) ∧
 (x13 = 0 →
 ((K.i64 0) ∧ plChk_post x0 x1 x2 x3 x4 x5 x6 b0 b1 x7 x8 x9 x10 p0 n0 c0 m1 0))))))) ∧
 ((x1 = 0 → (x2 = 0 → (x3 = 0 → (x4 = 0 → (x5 = 0 → (x6 = 0 → (b0 = false → b1 = true))))))) →
 ((K.i64 16) ∧ plChk_post x0 x1 x2 x3 x4 x5 x6 b0 b1 x7 x8 x9 x10 p0 n0 c0 m 16)))) ∧
 ((x8 = 0 → (x9 = 0 → x10 ≠ 0)) →
 ((K.i64 16) ∧ plChk_post x0 x1 x2 x3 x4 x5 x6 b0 b1 x7 x8 x9 x10 p0 n0 c0 m 16)))) ∧
 ((n0 : Int) ≠ 0 →
 ((K.i64 16) ∧ plChk_post x0 x1 x2 x3 x4 x5 x6 b0 b1 x7 x8 x9 x10 p0 n0 c0 m 16)))) ∧
 (x0 ≠ 0 →
 ((x0 = 1 →
 (((x8 = 0 ∧ (x9 = 0 ∧ x10 = 0)) →
 (eChk_pre x1 x2 x3 x4 x5 x6 b0 b1 m ∧ ∀ m1 : Mem, MemSub m m1 → ∀ x13 : Int, mi ≤ x13 → x13 ≤ ma → eChk_post x1 x2 x3 x4 x5 x6 b0 b1 m1 x13 →
 ((x13 = 0 →
 (zChk_pre x7 m1 ∧ ∀ m2 : Mem, MemSub m1 m2 → ∀ x14 : Int, mi ≤ x14 → x14 ≤ ma → zChk_post x7 m2 x14 →
 ((x14 ≠ 0 →
 ((K.i64 16) ∧ plChk_post x0 x1 x2 x3 x4 x5 x6 b0 b1 x7 x8 x9 x10 p0 n0 c0 m2 16)) ∧
 (x14 = 0 →
 ((n0 ≤ 9223372036854775807 ∧ c0 ≤ 9223372036854775807) ∧ bChk_pre (p0.map fun p => p.add 0) n0 c0 m2 ∧ ∀ m3 : Mem, MemSub m2 m3 → ∀ x15 : Int, mi ≤ x15 → x15 ≤ ma → bChk_post (p0.map fun p => p.add 0) n0 c0 m3 x15 →
 ((x15 ≠ 0 →
 ((K.i64 16) ∧ plChk_post x0 x1 x2 x3 x4 x5 x6 b0 b1 x7 x8 x9 x10 p0 n0 c0 m3 16)) ∧
 (x15 = 0 →
 ((K.i64 0) ∧ plChk_post x0 x1 x2 x3 x4 x5 x6 b0 b1 x7 x8 x9 x10 p0 n0 c0 m3 0)))))))) ∧
 (x13 ≠ 0 →
 ((K.i64 16) ∧ plChk_post x0 x1 x2 x3 x4 x5 x6 b0 b1 x7 x8 x9 x10 p0 n0 c0 m1 16))))) ∧
 ((x8 = 0 → (x9 = 0 → x10 ≠ 0)) →
 ((K.i64 16) ∧ plChk_post x0 x1 x2 x3 x4 x5 x6 b0 b1 x7 x8 x9 x10 p0 n0 c0 m 16)))) ∧
 (x0 ≠ 1 →
 ((x0 = 2 →
 (((x1 = 0 ∧ (x2 = 0 ∧ (x3 = 0 ∧ (x4 = 0 ∧ (x5 = 0 ∧ (x6 = 0 ∧ (b0 = false ∧ b1 = false))))))) →
 ((x7 = 0 →
 (evyC_pre x8 x9 x10 m ∧ ∀ m1 : Mem, MemSub m m1 → ∀ x13 : Int, mi ≤ x13 → x13 ≤ ma → evyC_post x8 x9 x10 m1 x13 →
 ((x13 ≠ 0 →
 ((K.i64 16) ∧ plChk_post x0 x1 x2 x3 x4 x5 x6 b0 b1 x7 x8 x9 x10 p0 n0 c0 m1 16)) ∧
 (x13 = 0 →
 ((n0 ≤ 9223372036854775807 ∧ c0 ≤ 9223372036854775807) ∧ bChk_pre (p0.map fun p => p.add 0) n0 c0 m1 ∧ ∀ m2 : Mem, MemSub m1 m2 → ∀ x14 : Int, mi ≤ x14 → x14 ≤ ma → bChk_post (p0.map fun p => p.add 0) n0 c0 m2 x14 →
 ((x14 ≠ 0 →
 ((K.i64 16) ∧ plChk_post x0 x1 x2 x3 x4 x5 x6 b0 b1 x7 x8 x9 x10 p0 n0 c0 m2 16)) ∧
 (x14 = 0 →
 ((K.i64 0) ∧ plChk_post x0 x1 x2 x3 x4 x5 x6 b0 b1 x7 x8 x9 x10 p0 n0 c0 m2 0)))))))) ∧
 (x7 ≠ 0 →
 ((K.i64 16) ∧ plChk_post x0 x1 x2 x3 x4 x5 x6 b0 b1 x7 x8 x9 x10 p0 n0 c0 m 16)))) ∧
 ((x1 = 0 → (x2 = 0 → (x3 = 0 → (x4 = 0 → (x5 = 0 → (x6 = 0 → (b0 = false → b1 = true))))))) →
 ((K.i64 16) ∧ plChk_post x0 x1 x2 x3 x4 x5 x6 b0 b1 x7 x8 x9 x10 p0 n0 c0 m 16)))) ∧
 (x0 ≠ 2 →
 ((K.i64 16) ∧ plChk_post x0 x1 x2 x3 x4 x5 x6 b0 b1 x7 x8 x9 x10 p0 n0 c0 m 16)))))))
set_option maxRecDepth 10000 in
set_option maxHeartbeats 4000000 in
theorem plChk_vc : plChk_VC := by
 intro m x0 _ _ x1 _ _ x2 _ _ x3 _ _ x4 _ _ x5 _ _ x6 _ _ b0 b1 x7 _ _ x8 _ _ x9 _ _ x10 _ _ p0 n0 c0 hn hc ⟨hg, S, hS⟩
 have ps : ∀ (m' : Mem) (z : Int), MemSub m m' → z = planE x0 x1 x2 x3 x4 x5 x6 b0 b1 x7 x8 x9 x10 S → plChk_post x0 x1 x2 x3 x4 x5 x6 b0 b1 x7 x8 x9 x10 p0 n0 c0 m' z := fun m' z h e T hT => by
  rw [← hS.uniq h hT]; exact e
 have hl := hS.1
 rw [map_add0]
 repeat' first | (refine And.intro ?_ ?_) | intro _
 all_goals first
  | trivial
  | (constructor <;> decide)
  | assumption
  | (refine ⟨S, ?_⟩
     repeat (first | exact hS | refine SpansAt.sub (by assumption) ?_)
     done)
  | (rename_i T hT
     have hu := hS.uniq (by repeat (first | exact memSub_refl _ | assumption | refine MemSub.trans ?_ (by assumption))) hT
     subst hu
     clear ps hg
     try simp only [zChk_post, evyC_post, eChk_post] at *
     first
      | (have e := (‹bChk_post _ _ _ _ _› : bChk_post _ _ _ _ _) S (by repeat (first | exact hS | refine SpansAt.sub (by assumption) ?_))
         clear hS hT
         subst_vars
         simp_all [planE]; done)
      | (clear hS; subst_vars; simp_all [planE]; done)
      | (have e := (‹bChk_post _ _ _ _ _› : bChk_post _ _ _ _ _) S (by repeat (first | exact hS | refine SpansAt.sub (by assumption) ?_))
         rw [planE, if_pos (.inl ⟨by assumption, by omega, by assumption, by assumption, by assumption, by omega⟩)])
      | (clear hS; subst_vars; simp_all [planE]; omega))
  | (repeat (first | exact hg | refine Globs.sub (by assumption) ?_)
     done)
theorem plChk_pg : ∀ m, forallF plChk.args plChk.spec fun r => r.1 m → GlobsAt m glSp := fun m a b c d e f g h i j k l n o p q hh => hh.1.h
set_option maxRecDepth 10000 in
theorem plChk_ok : SpOk Tryz.prog plChk :=
 con_okC glSp [] [.eq (.var 0) (.lit 0), .eq (.var 0) (.lit 1), .eq (.var 0) (.lit 2)] rfl (sps_of [bChk, evyC, zChk, eChk] ⟨bChk_ok, ⟨evyC_ok, ⟨zChk_ok, ⟨eChk_ok, trivial⟩⟩⟩⟩ rfl) (tab_ok _ []) 1000 plChk _ rfl rfl plChk_pg (Eq.mp (show plChk_VC = _ by kernel_rfl) plChk_vc)
end Go.Proofs.YtjabmipkllkfbaaGreatDoor.Vc
namespace Go.Proofs.YtjabmipkllkfbaaGreatDoor.Vc
end Go.Proofs.YtjabmipkllkfbaaGreatDoor.Vc
namespace Go.Proofs.YtjabmipkllkfbaaGreatDoor.Vc
theorem hasI_sub {m m' : Mem} (h : MemSub m m') {p : Option Addr} {z : Int} {n : Nat} (k : HasI m p z n) : HasI m' p z n := by
 obtain ⟨q, o, h1, h2, h3⟩ := k
 refine ⟨q, o, h1, h2, fun j hj => ?_⟩
 obtain ⟨v, v1, v2⟩ := h3 j hj
 exact ⟨v, memCell_up h v1, v2⟩
structure JobR where
 name : List UInt8
 k : Int
 a : Int
 b : Int
 c : Int
 d : Int
 e : Int
 f : Int
 x : Bool
 y : Bool
 z : Int
 s : Int
 t : Int
 u : Int
 skip : List (Int × Int)
 pol : As.Pol
def U64At (m : Mem) (p : Option Addr) (z x : Int) : Prop := cellI m p z = some (.int .u64 x) ∧ IntKind.u64.min ≤ x ∧ x ≤ IntKind.u64.max
theorem U64At.sub {m m' : Mem} (h : MemSub m m') {p : Option Addr} {z x : Int} (k : U64At m p z x) : U64At m' p z x := ⟨cellI_sub h k.1, k.2⟩
theorem U64At.uniq {m m' : Mem} (h : MemSub m m') {p : Option Addr} {z x y : Int} (k : U64At m p z x) (k' : U64At m' p z y) : x = y := by
 have := cellI_sub h k.1
 rw [k'.1] at this; cases this; rfl
theorem cellI_uniq {m m' : Mem} (h : MemSub m m') {p : Option Addr} {z : Int} {x y : Value} (k : cellI m p z = some x) (k' : cellI m' p z = some y) : x = y := by
 have := cellI_sub h k
 rw [k'] at this; cases this; rfl
def PlanAt (m : Mem) (p : Option Addr) (z : Int) (J : JobR) : Prop :=
 IntAt m p (z + 1) J.k ∧ U64At m p (z + 2) J.a ∧ U64At m p (z + 3) J.b ∧ U64At m p (z + 4) J.c ∧ U64At m p (z + 5) J.d ∧ U64At m p (z + 6) J.e ∧ U64At m p (z + 7) J.f ∧
  cellI m p (z + 8) = some (.bool J.x) ∧ cellI m p (z + 9) = some (.bool J.y) ∧ IntAt m p (z + 10) J.z ∧ IntAt m p (z + 11) J.s ∧ IntAt m p (z + 12) J.t ∧ IntAt m p (z + 13) J.u ∧
  ∃ q n c, cellI m p (z + 14) = some (.slice q n c) ∧ (n ≤ c ∧ c ≤ 9223372036854775807) ∧ SpansAt m q n J.skip
def PolAt (m : Mem) (p : Option Addr) (z : Int) (P : As.Pol) : Prop :=
 IntAt m p (z + 15) P.cap ∧ IntAt m p (z + 16) P.prio ∧ IntAt m p (z + 17) P.splay ∧ IntAt m p (z + 18) P.dead ∧ IntAt m p (z + 19) P.mis ∧ IntAt m p (z + 20) P.keep ∧ IntAt m p (z + 21) P.lim.t ∧ IntAt m p (z + 22) P.lim.tau ∧
  IntAt m p (z + 23) P.brk.fails ∧ IntAt m p (z + 24) P.brk.open_ ∧ IntAt m p (z + 25) P.brk.probes ∧ IntAt m p (z + 26) P.ret.max_ ∧ IntAt m p (z + 27) P.ret.base ∧ IntAt m p (z + 28) P.ret.cap ∧ IntAt m p (z + 29) P.ret.jit
def NameAt (m : Mem) (p : Option Addr) (z : Int) (s : List UInt8) : Prop := cellI m p z = some (.string ⟨s.toArray⟩) ∧ s.length ≤ 9223372036854775807
def JobAt (m : Mem) (p : Option Addr) (z : Int) (J : JobR) : Prop := (p ≠ none ∧ HasI m p z 30) ∧ NameAt m p z J.name ∧ PlanAt m p z J ∧ PolAt m p z J.pol
theorem PlanAt.sub {m m' : Mem} (h : MemSub m m') {p : Option Addr} {z : Int} {J : JobR} (k : PlanAt m p z J) : PlanAt m' p z J := by
 obtain ⟨a1, a2, a3, a4, a5, a6, a7, a8, a9, a10, a11, a12, a13, q, n, c, b1, b2, b3⟩ := k
 exact ⟨a1.sub h, a2.sub h, a3.sub h, a4.sub h, a5.sub h, a6.sub h, a7.sub h, cellI_sub h a8, cellI_sub h a9, a10.sub h, a11.sub h, a12.sub h, a13.sub h, q, n, c, cellI_sub h b1, b2, b3.sub h⟩
theorem PolAt.sub {m m' : Mem} (h : MemSub m m') {p : Option Addr} {z : Int} {P : As.Pol} (k : PolAt m p z P) : PolAt m' p z P := by
 obtain ⟨a1, a2, a3, a4, a5, a6, a7, a8, a9, a10, a11, a12, a13, a14, a15⟩ := k
 exact ⟨a1.sub h, a2.sub h, a3.sub h, a4.sub h, a5.sub h, a6.sub h, a7.sub h, a8.sub h, a9.sub h, a10.sub h, a11.sub h, a12.sub h, a13.sub h, a14.sub h, a15.sub h⟩
theorem JobAt.sub {m m' : Mem} (h : MemSub m m') {p : Option Addr} {z : Int} {J : JobR} (k : JobAt m p z J) : JobAt m' p z J :=
 ⟨⟨k.1.1, hasI_sub h k.1.2⟩, ⟨cellI_sub h k.2.1.1, k.2.1.2⟩, k.2.2.1.sub h, k.2.2.2.sub h⟩
theorem JobAt.uniq {m m' : Mem} (h : MemSub m m') {p : Option Addr} {z : Int} {J T : JobR} (k : JobAt m p z J) (k' : JobAt m' p z T) : J = T := by
 obtain ⟨_, n1, ⟨a1, a2, a3, a4, a5, a6, a7, a8, a9, a10, a11, a12, a13, q, n, c, b1, b2, b3⟩, ⟨d1, d2, d3, d4, d5, d6, d7, d8, d9, d10, d11, d12, d13, d14, d15⟩⟩ := k
 obtain ⟨_, n1', ⟨a1', a2', a3', a4', a5', a6', a7', a8', a9', a10', a11', a12', a13', q', n', c', b1', b2', b3'⟩, ⟨d1', d2', d3', d4', d5', d6', d7', d8', d9', d10', d11', d12', d13', d14', d15'⟩⟩ := k'
 have e0 := cellI_uniq h n1.1 n1'.1
 have e14 := cellI_uniq h b1 b1'
 cases e14
 have e15 := b3.uniq h b3'
 have g1 := a1.uniq h a1'; have g2 := a2.uniq h a2'; have g3 := a3.uniq h a3'; have g4 := a4.uniq h a4'; have g5 := a5.uniq h a5'; have g6 := a6.uniq h a6'; have g7 := a7.uniq h a7'
 have g8 := cellI_uniq h a8 a8'; have g9 := cellI_uniq h a9 a9'
 have g10 := a10.uniq h a10'; have g11 := a11.uniq h a11'; have g12 := a12.uniq h a12'; have g13 := a13.uniq h a13'
 have p1 := d1.uniq h d1'; have p2 := d2.uniq h d2'; have p3 := d3.uniq h d3'; have p4 := d4.uniq h d4'; have p5 := d5.uniq h d5'; have p6 := d6.uniq h d6'; have p7 := d7.uniq h d7'; have p8 := d8.uniq h d8'
 have p9 := d9.uniq h d9'; have p10 := d10.uniq h d10'; have p11 := d11.uniq h d11'; have p12 := d12.uniq h d12'; have p13 := d13.uniq h d13'; have p14 := d14.uniq h d14'; have p15 := d15.uniq h d15'
 obtain ⟨name, k, a, b, c, d, e, f, x, y, z, s, t, u, skip, ⟨cap, prio, splay, dead, mis, keep, ⟨lt, ltau⟩, ⟨bf, bo, bp⟩, ⟨r1, r2, r3, r4⟩⟩⟩ := J
 obtain ⟨name', k', a', b', c', d', e', f', x', y', z', s', t', u', skip', ⟨cap', prio', splay', dead', mis', keep', ⟨lt', ltau'⟩, ⟨bf', bo', bp'⟩, ⟨r1', r2', r3', r4'⟩⟩⟩ := T
 simp only at e0 e15 g1 g2 g3 g4 g5 g6 g7 g8 g9 g10 g11 g12 g13 p1 p2 p3 p4 p5 p6 p7 p8 p9 p10 p11 p12 p13 p14 p15
 injection e0 with e0; injection e0 with e0
 have e0 := congrArg Array.toList e0
 simp only at e0
 injection g8 with g8; injection g9 with g9
 subst e0; subst e15; subst g1; subst g2; subst g3; subst g4; subst g5; subst g6; subst g7; subst g8; subst g9; subst g10; subst g11; subst g12; subst g13
 subst p1; subst p2; subst p3; subst p4; subst p5; subst p6; subst p7; subst p8; subst p9; subst p10; subst p11; subst p12; subst p13; subst p14; subst p15
 rfl
def JobsAt (m : Mem) (p : Option Addr) (n : Nat) (L : List JobR) : Prop := L.length = n ∧ ∀ (i : Nat) (J : JobR), L[i]? = some J → JobAt m p ((i : Int) * 30) J
theorem JobsAt.sub {m m' : Mem} (h : MemSub m m') {p : Option Addr} {n : Nat} {l : List JobR} (k : JobsAt m p n l) : JobsAt m' p n l := ⟨k.1, fun i x e => (k.2 i x e).sub h⟩
theorem JobsAt.uniq {m m' : Mem} (h : MemSub m m') {p : Option Addr} {n : Nat} {S T : List JobR} (k : JobsAt m p n S) (k' : JobsAt m' p n T) : S = T := by
 apply List.ext_getElem?
 intro i
 by_cases hi : i < n
 ·have h1 : S[i]? = some (S[i]'(by rw [k.1]; exact hi)) := List.getElem?_eq_getElem _
  have h2 : T[i]? = some (T[i]'(by rw [k'.1]; exact hi)) := List.getElem?_eq_getElem _
  rw [h1, h2]
  congr 1
  exact (k.2 i _ h1).uniq h (k'.2 i _ h2)
 ·rw [List.getElem?_eq_none (by rw [k.1]; omega), List.getElem?_eq_none (by rw [k'.1]; omega)]
theorem JobsAt.at_ {m : Mem} {p : Option Addr} {n : Nat} {l : List JobR} (k : JobsAt m p n l) {i : Int} (h0 : 0 ≤ i) (h1 : i < (n : Int)) : ∃ J, l[i.toNat]? = some J ∧ JobAt m p (0 + i * 30) J := by
 have hi : i.toNat < l.length := by rw [k.1]; omega
 have e : l[i.toNat]? = some (l[i.toNat]'hi) := List.getElem?_eq_getElem _
 have c := k.2 i.toNat _ e
 rw [show ((i.toNat : Nat) : Int) * 30 = 0 + i * 30 by omega] at c
 exact ⟨_, e, c⟩
def planJ (J : JobR) : Int := planE J.k J.a J.b J.c J.d J.e J.f J.x J.y J.z J.s J.t J.u J.skip
def ruleJ (J : JobR) : Bool := decide (planJ J = 0) && decide (As.polP J.pol = 0)
def dupAt (N : List (List UInt8)) (i : Nat) : Bool := (N.take i).contains (N.getD i [])
def namesJ (L : List JobR) : List (List UInt8) := L.map JobR.name
def cfgE (a b c d t u : Int) (L : List JobR) : Int :=
 if gloE a b c d t u ≠ 0 then gloE a b c d t u
 else if 64 < L.length then 12
 else if L.all (fun J => nameB J.name) = false then 15
 else if (List.range L.length).any (dupAt (namesJ L)) = true then 6
 else if L.all ruleJ = false then 16 else 0
def encN (s : List UInt8) : Value := .tuple #[.string ⟨s.toArray⟩, .bool true]
theorem same_str (a b : List UInt8) : sameKey (.string ⟨a.toArray⟩) (.string ⟨b.toArray⟩) = some (decide (a = b)) := by
 simp only [sameKey]
 congr 1
 rw [beq_toListBytes, ByteArray.toList_eq, ByteArray.toList_eq]
 rw [Bool.eq_iff_iff]; simp
theorem ms_none (s : List UInt8) : ∀ (N : List (List UInt8)) (i : Nat), s ∉ N → mFind (.string ⟨s.toArray⟩) (N.map encN) i = some none := by
 intro N
 induction N with
 | nil => intro i _; rfl
 | cons t N ih =>
  intro i h
  simp only [List.mem_cons, not_or] at h
  have h1 : sameKey (.string ⟨s.toArray⟩) (.string ⟨t.toArray⟩) = some false := by rw [same_str]; simp [h.1]
  simp only [List.map_cons, encN, mFind, h1]
  exact ih _ h.2
theorem ms_some (s : List UInt8) : ∀ (N : List (List UInt8)) (i : Nat), s ∈ N → ∃ j, mFind (.string ⟨s.toArray⟩) (N.map encN) i = some (some (j, .bool true)) := by
 intro N
 induction N with
 | nil => intro i h; cases h
 | cons t N ih =>
  intro i h
  by_cases ht : s = t
  ·have h1 : sameKey (.string ⟨s.toArray⟩) (.string ⟨t.toArray⟩) = some true := by rw [same_str]; simp [ht]
   exact ⟨i, by simp only [List.map_cons, encN, mFind, h1]⟩
  ·have h1 : sameKey (.string ⟨s.toArray⟩) (.string ⟨t.toArray⟩) = some false := by rw [same_str]; simp [ht]
   have hN : s ∈ N := by
    rcases List.mem_cons.1 h with h | h
    ·exact (ht h).elim
    ·exact h
   obtain ⟨j, hj⟩ := ih (i + 1) hN
   exact ⟨j, by simp only [List.map_cons, encN, mFind, h1]; exact hj⟩
end Go.Proofs.YtjabmipkllkfbaaGreatDoor.Vc
namespace Go.Proofs.YtjabmipkllkfbaaGreatDoor.Vc
open Go.WideShapes Go.RowKit
def memW (w : World) : Mem := fun b => w.heap[b]?
section
variable {H : Type} {enc : TypeId × Value → H} {P : Program} {w : World} {base : Nat} {sp : Nat → Bool} {held : Bool}
end
theorem valL_bytes : ∀ l : List UInt8, valL (bytesA l) = some (l.map fun b => .int .u8 (Int.ofNat b.toNat)) := by
 intro l
 induction l with
 | nil => rfl
 | cons b l ih => simp only [bytesA, valL, ih, List.map_cons]
theorem glob_of {P : Program} {W : World} {name : String} {g : Nat} {cs : Array Value} {l : List AV} (hg : P.globalNamed name = some g) (h : W.var? P name = some cs) (hl : valL l = some cs.toList) : Globs (memW W) [(g, l)] := by
 unfold World.var? at h
 rw [hg] at h
 simp only [Option.bind_some] at h
 split at h
 ·rename_i cs' e fz hb
  cases h
  exact ⟨⟨cs.toList, [], e, fz, hl, by rw [List.append_nil]; exact hb⟩, trivial⟩
 ·cases h
end Go.Proofs.YtjabmipkllkfbaaGreatDoor.Vc
