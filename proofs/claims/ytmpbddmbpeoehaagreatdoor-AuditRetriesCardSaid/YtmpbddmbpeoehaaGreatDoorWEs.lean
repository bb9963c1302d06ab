/-
  Contracts, by their trees; AuditRetries: the walk, the row, the card.
-/
import Derived.Test.YtmpbddmbpeoehaaGreatDoorWEc
import Derived.Test.YtmpbddmbpeoehaaGreatDoorWP
import Derived.Test.YtmpbddmbpeoehaaGreatDoorWEb
import Derived.Test.YtmpbddmbpeoehaaGreatDoorWQ
import Derived.Test.YtmpbddmbpeoehaaGreatDoorWR
set_option linter.unusedVariables false
set_option linter.unusedSimpArgs false
namespace Go.Proofs.YtmpbddmbpeoehaaGreatDoor.Vc
open As
def lRet_pre (a b c d s t u : Int) (p : Option Addr) (n cc : Nat) (p1 : Option Addr) (n1 c1 : Nat) (m : Mem) : Prop := (Globs m glSp ∧ Globs m glMx) ∧ ∃ L l, JobsAt m p n L ∧ EvsAt m p1 n1 l
def lRet_post (a b c d s t u : Int) (p : Option Addr) (n cc : Nat) (p1 : Option Addr) (n1 c1 : Nat) (m : Mem) (b : Bool) : Prop := b = true
def lRet : Sp := { args := [.i .i64, .i .i64, .i .i64, .i .i64, .i .u64, .i .i64, .i .i64, .sl, .sl], grp := [some 8, none], res := [.b], rgrp := [none], fn := 3, spec := fun a0 a1 a2 a3 a4 a5 a6 a7 a8 a9 a10 a11 a12 => (lRet_pre a0 a1 a2 a3 a4 a5 a6 a7 a8 a9 a10 a11 a12, lRet_post a0 a1 a2 a3 a4 a5 a6 a7 a8 a9 a10 a11 a12) }
set_option maxRecDepth 20000 in
def lRet_VC : Prop := ∀ m : Mem, ∀ x0 : Int, mi ≤ x0 → x0 ≤ ma → ∀ x1 : Int, mi ≤ x1 → x1 ≤ ma → ∀ x2 : Int, mi ≤ x2 → x2 ≤ ma → ∀ x3 : Int, mi ≤ x3 → x3 ≤ ma → ∀ x4 : Int, IntKind.u64.min ≤ x4 → x4 ≤ IntKind.u64.max → ∀ x5 : Int, mi ≤ x5 → x5 ≤ ma → ∀ x6 : Int, mi ≤ x6 → x6 ≤ ma → ∀ (p0 : Option Addr) (n0 c0 : Nat), n0 ≤ 9223372036854775807 → c0 ≤ 9223372036854775807 → ∀ (p1 : Option Addr) (n1 c1 : Nat), n1 ≤ 9223372036854775807 → c1 ≤ 9223372036854775807 → lRet_pre x0 x1 x2 x3 x4 x5 x6 p0 n0 c0 p1 n1 c1 m →
 ((n0 ≤ 9223372036854775807 ∧ c0 ≤ 9223372036854775807) ∧ (n1 ≤ 9223372036854775807 ∧ c1 ≤ 9223372036854775807) ∧ few_pre x0 x1 x2 x3 x4 x5 x6 (p0.map fun p => p.add 0) n0 c0 (p1.map fun p => p.add 0) n1 c1 m ∧ ∀ m1 : Mem, MemSub m m1 → ∀ b0 : Bool, few_post x0 x1 x2 x3 x4 x5 x6 (p0.map fun p => p.add 0) n0 c0 (p1.map fun p => p.add 0) n1 c1 m1 b0 →
 ((b0 = false →
 (wrk_pre  m1 ∧ ∀ m2 : Mem, MemSub m1 m2 → ∀ b1 : Bool, wrk_post  m2 b1 →
 (lRet_post x0 x1 x2 x3 x4 x5 x6 p0 n0 c0 p1 n1 c1 m2 b1))) ∧
 (b0 = true →
 ((n0 ≤ 9223372036854775807 ∧ c0 ≤ 9223372036854775807) ∧ (n1 ≤ 9223372036854775807 ∧ c1 ≤ 9223372036854775807) ∧ aRet_pre x0 x1 x2 x3 x4 x5 x6 (p0.map fun p => p.add 0) n0 c0 (p1.map fun p => p.add 0) n1 c1 m1 ∧ ∀ m2 : Mem, MemSub m1 m2 → ∀ (p2 : Option Addr) (n2 c2 : Nat), n2 ≤ 9223372036854775807 → c2 ≤ 9223372036854775807 → ∀ x13 : Int, mi ≤ x13 → x13 ≤ ma → aRet_post x0 x1 x2 x3 x4 x5 x6 (p0.map fun p => p.add 0) n0 c0 (p1.map fun p => p.add 0) n1 c1 m2 p2 n2 c2 x13 →
 ((n0 ≤ 9223372036854775807 ∧ c0 ≤ 9223372036854775807) ∧ (n1 ≤ 9223372036854775807 ∧ c1 ≤ 9223372036854775807) ∧ rRtr_pre x0 x1 x2 x3 x4 x5 x6 (p0.map fun p => p.add 0) n0 c0 (p1.map fun p => p.add 0) n1 c1 m2 ∧ ∀ m3 : Mem, MemSub m2 m3 → ∀ (p3 : Option Addr) (n3 c3 : Nat), n3 ≤ 9223372036854775807 → c3 ≤ 9223372036854775807 → ∀ x16 : Int, mi ≤ x16 → x16 ≤ ma → rRtr_post x0 x1 x2 x3 x4 x5 x6 (p0.map fun p => p.add 0) n0 c0 (p1.map fun p => p.add 0) n1 c1 m3 p3 n3 c3 x16 →
 ((n2 ≤ 9223372036854775807 ∧ c2 ≤ 9223372036854775807) ∧ (n3 ≤ 9223372036854775807 ∧ c3 ≤ 9223372036854775807) ∧ eqF_pre (p2.map fun p => p.add 0) n2 c2 (p3.map fun p => p.add 0) n3 c3 m3 ∧ ∀ m4 : Mem, MemSub m3 m4 → ∀ b1 : Bool, eqF_post (p2.map fun p => p.add 0) n2 c2 (p3.map fun p => p.add 0) n3 c3 m4 b1 →
 ((b1 = true →
 ((x13 = x16 →
 (wrk_pre  m4 ∧ ∀ m5 : Mem, MemSub m4 m5 → ∀ b2 : Bool, wrk_post  m5 b2 →
 (lRet_post x0 x1 x2 x3 x4 x5 x6 p0 n0 c0 p1 n1 c1 m5 b2))) ∧
 (x13 ≠ x16 →
 (lRet_post x0 x1 x2 x3 x4 x5 x6 p0 n0 c0 p1 n1 c1 m4 false)))) ∧
 (b1 = false →
 (lRet_post x0 x1 x2 x3 x4 x5 x6 p0 n0 c0 p1 n1 c1 m4 false)))))))))
set_option maxRecDepth 20000 in
set_option maxHeartbeats 4000000 in
theorem lRet_vc : lRet_VC := by
 intro m x0 _ _ x1 _ _ x2 _ _ x3 _ _ x4 _ _ x5 _ _ x6 _ _ p n c hn hc p1 n1 c1 hn1 hc1 ⟨⟨hgl, hgx⟩, L, l, hL, hl⟩
 simp only [map_add0]
 refine ⟨⟨hn, hc⟩, ⟨hn1, hc1⟩, ⟨L, hL⟩, fun m1 hm1 b0 hb0 => ⟨fun _ => ⟨Globs.sub hm1 hgx, fun m2 hm2 b1 hb1 => hb1⟩, fun hbt => ?_⟩⟩
 have h100 : n1 ≤ 100 := hb0 hbt
 refine ⟨⟨hn, hc⟩, ⟨hn1, hc1⟩, ⟨⟨⟨Globs.sub hm1 hgl, Globs.sub hm1 hgx⟩, by omega⟩, L, l, hL.sub hm1, hl.sub hm1⟩, fun m2 hm2 p2 n2 c2 hn2 hc2 z kz1 kz2 ha => ⟨⟨hn, hc⟩, ⟨hn1, hc1⟩, ⟨by omega, L, l, (hL.sub hm1).sub hm2, (hl.sub hm1).sub hm2⟩, fun m3 hm3 p3 n3 c3 hn3 hc3 z2 kz3 kz4 hr => ⟨⟨hn2, hc2⟩, ⟨hn3, hc3⟩, ?_, fun m4 hm4 b1 hb1 => ⟨fun _ => ⟨fun _ => ⟨Globs.sub (((hm1.trans hm2).trans hm3).trans hm4) hgx, fun m5 hm5 b2 hb2 => hb2⟩, fun hne => absurd ?_ hne⟩, fun hbf => ?_⟩⟩⟩⟩
 ·obtain ⟨a1, a2, a3⟩ := ha L l ((hL.sub hm1).sub hm2) ((hl.sub hm1).sub hm2)
  obtain ⟨r1, r2, r3⟩ := hr L l (((hL.sub hm1).sub hm2).sub hm3) (((hl.sub hm1).sub hm2).sub hm3)
  refine ⟨8, _, by constructor <;> decide, a3, r3, a2.sub hm3, r2, fun i hi => ?_⟩
  have := hl.1
  have := auI_le hi
  omega
 ·obtain ⟨a1, a2, a3⟩ := ha L l ((hL.sub hm1).sub hm2) ((hl.sub hm1).sub hm2)
  obtain ⟨r1, r2, r3⟩ := hr L l (((hL.sub hm1).sub hm2).sub hm3) (((hl.sub hm1).sub hm2).sub hm3)
  rw [a1, r1]
 ·have hb1 : b1 = true := hb1
  rw [hbf] at hb1; cases hb1
set_option maxRecDepth 20000 in
theorem lRet_ok : SpOk Tryz.prog lRet :=
 con_ok (sps_of [few, aRet, rRtr, eqF, wrk] ⟨few_ok, ⟨aRet_ok, ⟨rRtr_ok, ⟨eqF_ok, ⟨wrk_ok, trivial⟩⟩⟩⟩⟩ rfl) (tab_ok _ []) 1000 lRet _ rfl rfl (Eq.mp (show lRet_VC = _ by kernel_rfl) lRet_vc)
end Go.Proofs.YtmpbddmbpeoehaaGreatDoor.Vc
namespace Go.Proofs.YtmpbddmbpeoehaaGreatDoor.auditRetries
open Go.ChangeShapes Go.WideShapes Go.ChangeAt Go.RowKit
-- AuditRetries: the contract of the law, at a world.
open Vc in
theorem walk (x0 x1 x2 x3 x4 x5 x6 : Int) (A : Option Addr) (n c : Nat) (B : Option Addr) (k d : Nat) (hk : K.i64 x0 ∧ K.i64 x1 ∧ K.i64 x2 ∧ K.i64 x3 ∧ (IntKind.u64.min ≤ x4 ∧ x4 ≤ IntKind.u64.max) ∧ K.i64 x5 ∧ K.i64 x6) (hn : n ≤ c) (hc : c ≤ maxLen) (hk1 : k ≤ d) (hd : d ≤ maxLen) (W : World) (hT : VRow.VTabs W) (hs : ∃ L, JobsAt (memW W) A n L) (hs1 : ∃ l, EvsAt (memW W) B k l) :
  Calls Tryz.prog 3 #[.agg #[.int .i64 x0, .int .i64 x1, .int .i64 x2, .int .i64 x3, .int .u64 x4, .int .i64 x5, .int .i64 x6, .slice A n c], .slice B k d] W fun e W' => e = .returned (.bool true) ∧ Below W.heap.size W W' := by
 obtain ⟨L, hL⟩ := hs
 obtain ⟨l, hl⟩ := hs1
 obtain ⟨h0, h1, h2, h3, h4, h5, h6⟩ := hk
 have hm : maxLen = 9223372036854775807 := rfl
 have := lRet_ok (memW W) W [.int .i64 x0, .int .i64 x1, .int .i64 x2, .int .i64 x3, .int .u64 x4, .int .i64 x5, .int .i64 x6, .slice A n c, .slice B k d] _ (fun _ _ h => h) rfl
  ⟨rfl, h0, rfl, h1, rfl, h2, rfl, h3, rfl, h4, rfl, h5, rfl, h6, ⟨by omega, by omega⟩, ⟨by omega, by omega⟩, ⟨⟨hT.sp, hT.mx⟩, L, l, hL, hl⟩⟩
 refine this.mono fun e W' h => ?_
 obtain ⟨m', rs, rs', rfl, hp, hb, _, _, hr⟩ := h
 refine ⟨?_, hb⟩
 obtain ⟨_, _, _, _, _, _, _, _, _, _, _, _, _, _, _, _, hr⟩ := hr
 match rs, hp, hr with
 | [.bool b], hp, hr =>
  have hb : b = true := hr
  cases hp
  rw [hb]; rfl
set_option maxRecDepth 100000 in
theorem contract (H : Type) (enc : TypeId × Value → H) (W : World) (base : Nat) (args : Array Value) (ds gs : List (DataW H)) (before : List MemPlace)
  (hval : ∀ (j : Nat) t v, Tryz.f3.params[j]? = some t → args[j]? = some v → Value.okWide Tryz.prog W .any base t v)
  (hW : DataW.Whole enc Tryz.prog Tryz.f3.params.toList Rows.auditRetriesSpec.vars false W args.toList ds gs before) (hL : laidMetH Tryz.prog Rows.auditRetriesRow.laid W) (hS : W.ShapedOpen Tryz.prog) :
  Calls Tryz.prog 3 args W fun e W' => ∃ v, e = .returned v ∧ Rows.auditRetriesSpec.post enc Tryz.prog Tryz.f3 false true false false W args v W' := by
 have hT : VRow.VTabs W := VRow.tabs_of hL hS
 have hW' := hW
 obtain ⟨p, q, hA0, hV, rfl, hfz, hnd⟩ := hW
 have hA : DataW.TrodAll enc Tryz.prog W 0 (fun _ => true) true Tryz.f3.params.toList args.toList ds p := hA0
 rw [Tryz.params3] at hA hval
 obtain ⟨v0, vs0, d0, ds0, p0, q0, hargs, rfl, rfl, h0, r0⟩ := trodAll_cons hA
 obtain ⟨v1, vs1, d1, ds1, p1, q1, rfl, rfl, rfl, h1, r1⟩ := trodAll_cons r0
 obtain ⟨rfl, rfl, rfl⟩ := trodAll_nil r1
 obtain rfl : args = #[v0, v1] := by cases args; simp_all
 obtain ⟨rfl, rfl⟩ := trodVars_none hV
 have h0k := h0
 obtain ⟨x00, x01, x02, x03, x04, x05, x06, A0, n0, c0, rfl, hk0, hn0, hc0, hs0⟩ := VRow.open_cfg (hval 0 29 v0 rfl rfl) h0
 have h1k := h1
 obtain ⟨A1, n1, c1, rfl, hn1, hc1, hs1⟩ := VRow.open_events (hval 1 30 v1 rfl rfl) h1
 clear hA0
 simp only [List.append_nil] at hW'
 refine (walk x00 x01 x02 x03 x04 x05 x06 A0 n0 c0 A1 n1 c1 hk0 hn0 hc0 hn1 hc1 W hT hs0 hs1).mono fun e W' ⟨he, hb⟩ => ?_
 subst he
 exact ⟨_, rfl, _, _, _, [], _, [], hW', trodAll_cons_mk (shut_bool Tryz.underlying4 _) trodAll_mk0, (trodAll_cons_mk (Below.trod (by kernel_rfl) (by kernel_rfl) (of_decide_eq_true (by kernel_rfl)) h0k hb (fun x hx => hW'.lt x (by first | (simpa using hx; done) | (simp [hx]; done)))) (trodAll_cons_mk (Below.trod (by kernel_rfl) (by kernel_rfl) (of_decide_eq_true (by kernel_rfl)) h1k hb (fun x hx => hW'.lt x (by first | (simpa using hx; done) | (simp [hx]; done)))) trodAll_mk0)), rfl, hb.frame _, fun h => by cases h⟩
set_option maxRecDepth 100000 in
theorem lifted (os : Os) (started : os.Started) (H : Type) (enc : TypeId × Value → H) (F : Stop.Interp) :
  ReturnsInHanded {} Tryz.checked os 3 .any ((OpenSpec.ofChange Rows.auditRetriesSpec).preRow enc Tryz.prog Tryz.f3 Rows.auditRetriesRow.domain false Rows.auditRetriesRow.laid) (((OpenSpec.ofChange Rows.auditRetriesSpec).at F).post enc Tryz.prog Tryz.f3 false true false false) := by
 refine returnsInHanded_of_row (C := Tryz.checked) (s := OpenSpec.ofChange Rows.auditRetriesSpec) VRow.own started (by kernel_rfl) Tryz.func3
  (ChangeSpec.witness_shaped (enc := enc) (C := Tryz.checked) (os := os) (X := fun w _ => laidMetH Tryz.prog VRow.laidL w) false (World.laidAll Tryz.prog os VRow.laidL) #[.agg #[.int .i64 0, .int .i64 0, .int .i64 0, .int .i64 0, .int .u64 0, .int .i64 0, .int .i64 0, .slice none 0 0], .slice none 0 0] 8 (World.laidAll_os _ _ _)
   (VRow.wit_shaped os _) (by kernel_rfl) (by kernel_rfl) (by kernel_rfl) (VRow.wit_laid os _)) ?_
 intro W base args ds gs before hval hW _ _ _ hL hS _
 exact contract H enc W base args ds gs before hval hW hL hS
end Go.Proofs.YtmpbddmbpeoehaaGreatDoor.auditRetries
