/-
  bits.Has of the program; the law's matches.
-/
import Derived.Test.YtjnlgaeedcklaaaGreatDoorFBits
import Derived.Test.YtjnlgaeedcklaaaGreatDoorXCheck
import Derived.Test.YtjnlgaeedcklaaaGreatDoorXPlain5
import Derived.Deep.DeepCutAuto
import Derived.Deep.CutBlock
set_option linter.unusedVariables false
set_option linter.unusedSimpArgs false
namespace Go.Proofs.YtjnlgaeedcklaaaGreatDoor
open Go.RowKit

theorem bits_inside1 (n : Nat) (w : World) (hn : n < 64) : Calls Tryz.prog 89 #[.int .i64 n] w fun e w' => e = .returned (.bool true) ∧ w = w' := by
  have h0 : decide (0 ≤ (n : Int)) = true := decide_eq_true (by omega)
  have h1 : decide ((n : Int) < 64) = true := decide_eq_true (by omega)
  go_enter Tryz.func89, Tryz.ntmps89
  go_wp2
  go_ret
  exact ⟨rfl, rfl⟩

theorem bits_Has (a n : Nat) (w : World) (ha : a < 18446744073709551616) (hn : n < 64) :
    Calls Tryz.prog 59 #[.int .u64 a, .int .i64 n] w fun e w' => e = .returned (.bool (a.testBit n)) ∧ w = w' := by
  have HI := Lib.hid fun W => bits_inside1 n W hn
  have h0 : (0 : Int) ≤ n := Int.natCast_nonneg n
  have h1 : (n : Int) ≤ 63 := by omega
  have hd : a / 2 ^ n < 18446744073709551616 := Nat.lt_of_le_of_lt (Nat.div_le_self _ _) ha
  have h2 : bits .and .u64 ((a / 2 ^ n : Nat) : Int) 1 = ((a / 2 ^ n &&& 1 : Nat) : Int) := u64_and_nat _ 1 hd (by omega)
  have e1 : (decide ((a / 2 ^ n &&& 1) = 1)) = a.testBit n := by
    rw [Nat.testBit_eq_decide_div_mod_eq, nat_mask1]
  have H2 := Lib.hid h2; clear h2
  have E1 := Lib.hid e1; clear e1
  go_enter Tryz.func59, Tryz.ntmps59
  go_wp2_with (go_at_call 89; (with_reducible refine (HI.out _).mono ?_); rintro e w1 ⟨rfl, rfl⟩)
  all_goals (first | (exfalso; omega) | skip)
  go_ret
  refine ⟨ret_bool ?_, rfl⟩
  have h2 := H2.out
  rw [← E1.out, Bool.eq_iff_iff]
  have h3 : (((a / 2 ^ n : Nat) : Int)) = (a : Int) / 2 ^ n := by simp
  rw [← h3, h2]
  simp
  omega

set_option maxRecDepth 100000 in
set_option maxHeartbeats 8000000 in
theorem law_matches (x : Xs.Ex) (s m h d n k : Nat) (w : World) (hx : SmallX x) (hs : s < 64) (hm : m < 64) (hh : h < 64) (hd : d < 64) (hn : n < 64) (hk : k < 64) :
    Calls Tryz.prog 28 #[exV x.second x.minute x.hour x.day x.month x.week x.anyDay x.anyWeek, .agg #[.int .i64 s, .int .i64 m, .int .i64 h, .int .i64 d, .int .i64 n, .int .i64 k]] w fun e w' => e = .returned (.bool (Xs.mat x s m h d n k)) ∧ Below w.heap.size w w' := by
  have HS := Lib.hid fun W => bits_Has x.second s W (hx.set 0 (by decide)) hs
  have HM := Lib.hid fun W => bits_Has x.minute m W (hx.set 1 (by decide)) hm
  have HH := Lib.hid fun W => bits_Has x.hour h W (hx.set 2 (by decide)) hh
  have HD := Lib.hid fun W => bits_Has x.day d W (hx.set 3 (by decide)) hd
  have HN := Lib.hid fun W => bits_Has x.month n W (hx.set 4 (by decide)) hn
  have HW := Lib.hid fun W => bits_Has x.week k W (hx.set 5 (by decide)) hk
  have hv : Xs.mat x s m h d n k = ((if x.anyDay && x.anyWeek then true else if x.anyDay then x.week.testBit k else if x.anyWeek then x.day.testBit d else x.day.testBit d || x.week.testBit k) && x.second.testBit s && x.minute.testBit m && x.hour.testBit h && x.month.testBit n) := rfl
  rw [hv]
  clear hv hx
  obtain ⟨a0, a1, a2, a3, a4, a5, ad, aw⟩ := x
  simp only at HS HM HH HD HN HW ⊢
  generalize a0.testBit s = tS at *
  generalize a1.testBit m = tM at *
  generalize a2.testBit h = tH at *
  generalize a3.testBit d = tD at *
  generalize a4.testBit n = tN at *
  generalize a5.testBit k = tW at *
  obtain ⟨D, hD⟩ : ∃ D, (if ad && aw then true else if ad then tW else if aw then tD else tD || tW) = D := ⟨_, rfl⟩
  rw [hD]
  have HDD := Lib.hid hD
  obtain ⟨W0, hW0⟩ : ∃ W0, (w.alloc (.cells (exC a0 a1 a2 a3 a4 a5 ad aw) 25)).alloc (.cells #[.int .i64 s, .int .i64 m, .int .i64 h, .int .i64 d, .int .i64 n, .int .i64 k] 50) = W0 := ⟨_, rfl⟩
  have KA : Hid (Blk W0 w.heap.size 25 (exC a0 a1 a2 a3 a4 a5 ad aw)) := Lib.hid (hW0 ▸ (Blk.new w _ _).alloc _)
  have KB : Hid (Blk W0 (w.heap.size + 1) 50 #[.int .i64 s, .int .i64 m, .int .i64 h, .int .i64 d, .int .i64 n, .int .i64 k]) := Lib.hid (hW0 ▸ by have := Blk.new (w.alloc (.cells (exC a0 a1 a2 a3 a4 a5 ad aw) 25)) 50 #[.int .i64 s, .int .i64 m, .int .i64 h, .int .i64 d, .int .i64 n, .int .i64 k]; rw [World.size_alloc] at this; exact this)
  have HB : Hid (Below w.heap.size w W0) := Lib.hid (hW0 ▸ ((Below.refl _ _).alloc (Nat.le_refl _) _).alloc (by simp) _)
  have HW0 := Lib.hid hW0
  have hmu := yielded_undef
  clear hW0 hD
  go_enter Tryz.func28, Tryz.ntmps28
  go_upto_region 1 with fail
  rw [HW0.out]
  clear HW0
  obtain ⟨bA, hbA⟩ : ∃ b, b = w.heap.size := ⟨_, rfl⟩
  obtain ⟨bB, hbB⟩ : ∃ b, b = w.heap.size + 1 := ⟨_, rfl⟩
  rw [← hbB, ← hbA]
  rw [← hbA] at KA
  rw [← hbB] at KB
  clear hbA hbB
  have c1 := KA.out.cell 3
  have c2 := KA.out.cell 5
  have c3 := KB.out.cell 3
  have c4 := KB.out.cell 5
  refine wp_region_held_drew (S := fun V => V.cell? ⟨bA, 3, none⟩ = some (.int .u64 a3) ∧ V.cell? ⟨bA, 5, none⟩ = some (.int .u64 a5) ∧ V.cell? ⟨bB, 3, none⟩ = some (.int .i64 d) ∧ V.cell? ⟨bB, 5, none⟩ = some (.int .i64 k)) (by kernel_rfl) ?hs101 (fun hHeld => ?rs101)
  case hs101 => exact ⟨c1, c2, c3, c4⟩
  refine wpAnyH_take (i := 0) (oi := ?oi102) (v := ?vv102) ?hi102 (by kernel_rfl) (by kernel_rfl) (by kernel_rfl) ?hq102 (Or.inl ⟨?hw102, ?hy102⟩) (by assumption) ?rs102
  case hi102 => (simp only [Hg]; rfl)
  case hq102 => exact fun _ _ _ h => h
  case hw102 => rfl
  case hy102 => (intro w hSw; (try dsimp only at hSw); go_simp <;> with_reducible rfl)
  simp only [Hp]
  refine wpAnyH_take (i := 1) (oi := ?oi103) (v := ?vv103) ?hi103 (by kernel_rfl) (by kernel_rfl) (by kernel_rfl) ?hq103 (Or.inl ⟨?hw103, ?hy103⟩) (by assumption) ?rs103
  case hi103 => (simp only [Hg]; rfl)
  case hq103 => exact fun _ _ _ h => h
  case hw103 => rfl
  case hy103 => (intro w hSw; (try dsimp only at hSw); go_simp <;> with_reducible rfl)
  simp only [Hp]
  refine wpAnyH_take (i := 2) (oi := ?oi104) (v := ?vv104) ?hi104 (by kernel_rfl) (by kernel_rfl) (by kernel_rfl) ?hq104 (Or.inl ⟨?hw104, ?hy104⟩) (by assumption) ?rs104
  case hi104 => (simp only [Hg]; rfl)
  case hq104 => exact fun _ _ _ h => h
  case hw104 => rfl
  case hy104 => (intro w hSw; (try dsimp only at hSw); go_simp <;> with_reducible rfl)
  simp only [Hp]
  refine wpAnyH_take (i := 3) (oi := ?oi105) (v := ?vv105) ?hi105 (by kernel_rfl) (by kernel_rfl) (by kernel_rfl) ?hq105 (Or.inl ⟨?hw105, ?hy105⟩) (by assumption) ?rs105
  case hi105 => (simp only [Hg]; rfl)
  case hq105 => exact fun _ _ _ h => h
  case hw105 => rfl
  case hy105 => (intro w hSw; (try dsimp only at hSw); go_simp <;> with_reducible rfl)
  simp only [Hp]
  refine wpAnyH_take (i := 5) (oi := ?oi106) (v := ?vv106) ?hi106 (by kernel_rfl) (by kernel_rfl) (by kernel_rfl) ?hq106 (Or.inl ⟨?hw106, ?hy106⟩) (by assumption) ?rs106
  case hi106 => (simp only [Hg]; rfl)
  case hq106 => exact fun _ _ _ h => h
  case hw106 => rfl
  case hy106 => (intro w hSw; (try dsimp only at hSw); go_simp <;> with_reducible rfl)
  simp only [Hp]
  refine wpAnyH_take (i := 6) (oi := ?oi107) (v := ?vv107) ?hi107 (by kernel_rfl) (by kernel_rfl) (by kernel_rfl) ?hq107 (Or.inl ⟨?hw107, ?hy107⟩) (by assumption) ?rs107
  case hi107 => (simp only [Hg]; rfl)
  case hq107 => exact fun _ _ _ h => h
  case hw107 => rfl
  case hy107 => (intro w hSw; (try dsimp only at hSw); go_simp <;> with_reducible rfl)
  simp only [Hp]
  refine wpAnyH_take (i := 7) (oi := ?oi108) (v := ?vv108) ?hi108 (by kernel_rfl) (by kernel_rfl) (by kernel_rfl) ?hq108 (Or.inl ⟨?hw108, ?hy108⟩) (by assumption) ?rs108
  case hi108 => (simp only [Hg]; rfl)
  case hq108 => exact fun _ _ _ h => h
  case hw108 => rfl
  case hy108 => (intro w hSw; (try dsimp only at hSw); go_simp <;> with_reducible rfl)
  simp only [Hp]
  refine wpAnyH_take (i := 8) (oi := ?oi109) (v := ?vv109) ?hi109 (by kernel_rfl) (by kernel_rfl) (by kernel_rfl) ?hq109 (Or.inl ⟨?hw109, ?hy109⟩) (by assumption) ?rs109
  case hi109 => (simp only [Hg]; rfl)
  case hq109 => exact fun _ _ _ h => h
  case hw109 => rfl
  case hy109 => (intro w hSw; (try dsimp only at hSw); go_simp <;> with_reducible rfl)
  simp only [Hp]
  refine wpAnyH_ready (rs := [4]) (by kernel_rfl) (by simp) (AllReadyH.cons (o := ?oi110) ?hi110 (fun K hK => ?rs110) AllReadyH.nil)
  case hi110 => (simp only [Hg]; rfl)
  go_simp
  (go_at_call 59; (with_reducible refine (HD.out _).mono ?_); rintro e w1 ⟨rfl, rfl⟩)
  refine hK.out _ _ ?hs110 (fun hHeld => ?rt110)
  case hs110 => assumption
  clear hK K
  try simp only [Hp]
  refine wpAnyH_ready (rs := [9]) (by kernel_rfl) (by simp) (AllReadyH.cons (o := ?oi111) ?hi111 (fun K hK => ?rs111) AllReadyH.nil)
  case hi111 => (simp only [Hg]; rfl)
  go_simp
  (go_at_call 59; (with_reducible refine (HW.out _).mono ?_); rintro e w1 ⟨rfl, rfl⟩)
  refine hK.out _ _ ?hs111 (fun hHeld => ?rt111)
  case hs111 => assumption
  clear hK K
  try simp only [Hp]
  refine wpAnyH_take (i := 10) (oi := ?oi112) (v := ?vv112) ?hi112 (by kernel_rfl) (by kernel_rfl) (by kernel_rfl) ?hq112 (Or.inl ⟨?hw112, ?hy112⟩) (by assumption) ?rs112
  case hi112 => (simp only [Hg]; rfl)
  case hq112 => exact fun _ _ _ h => h
  case hw112 => rfl
  case hy112 => (intro w hSw; (try dsimp only at hSw); go_simp <;> with_reducible rfl)
  simp only [Hp]
  refine wpAnyH_take (i := 11) (oi := ?oi113) (v := ?vv113) ?hi113 (by kernel_rfl) (by kernel_rfl) (by kernel_rfl) ?hq113 (Or.inl ⟨?hw113, ?hy113⟩) (by assumption) ?rs113
  case hi113 => (simp only [Hg]; rfl)
  case hq113 => exact fun _ _ _ h => h
  case hw113 => rfl
  case hy113 => (intro w hSw; (try dsimp only at hSw); go_simp <;> with_reducible rfl)
  simp only [Hp]
  refine wpAnyH_done (by kernel_rfl) ?_ _
  go_upto_block 0 with fail
  obtain ⟨ac, af⟩ := KA.out.drew.facts
  obtain ⟨bc, bf⟩ := KB.out.drew.facts
  have HBd : Hid (Below w.heap.size w W0.drew) := Lib.hid HB.out.drew
  generalize W0.drew = W1 at *
  clear c1 c2 c3 c4 KA KB HB HD HW hmu
  go_cut [5] (fun s5 wx => s5 = .bool D ∧ wx = W1)
  case first =>
    have h := HDD.out
    clear HDD bc bf
    cases ad <;> cases aw <;> cases tD <;> (simp at h; subst h; go_wp2_with fail; go_meet; exact ⟨rfl, rfl⟩)
  case rest =>
    obtain ⟨rfl, rfl⟩ := hcut
    clear HDD
    have fin : ∀ v : Bool, v = (D && tS && tM && tH && tN) → Ending.returned (.bool v) = .returned (.bool (D && tS && tM && tH && tN)) := fun v h => by rw [h]
    have Fin := Lib.hid fin
    clear fin
    cases D with
    | false => go_wp2_with fail; go_ret; exact ⟨rfl, HBd.out⟩
    | true =>
    cases tS with
    | false => go_wp2_with (go_at_call 59; (with_reducible refine (HS.out _).mono ?_); rintro e w1 ⟨rfl, rfl⟩); go_ret; exact ⟨rfl, HBd.out⟩
    | true =>
    cases tM with
    | false => go_wp2_with (first | (go_at_call 59; (with_reducible refine (HS.out _).mono ?_); rintro e w1 ⟨rfl, rfl⟩) | (go_at_call 59; (with_reducible refine (HM.out _).mono ?_); rintro e w1 ⟨rfl, rfl⟩)); go_ret; exact ⟨rfl, HBd.out⟩
    | true =>
    cases tH with
    | false => go_wp2_with (first | (go_at_call 59; (with_reducible refine (HS.out _).mono ?_); rintro e w1 ⟨rfl, rfl⟩) | (go_at_call 59; (with_reducible refine (HM.out _).mono ?_); rintro e w1 ⟨rfl, rfl⟩) | (go_at_call 59; (with_reducible refine (HH.out _).mono ?_); rintro e w1 ⟨rfl, rfl⟩)); go_ret; exact ⟨rfl, HBd.out⟩
    | true => go_wp2_with (first | (go_at_call 59; (with_reducible refine (HS.out _).mono ?_); rintro e w1 ⟨rfl, rfl⟩) | (go_at_call 59; (with_reducible refine (HM.out _).mono ?_); rintro e w1 ⟨rfl, rfl⟩) | (go_at_call 59; (with_reducible refine (HH.out _).mono ?_); rintro e w1 ⟨rfl, rfl⟩) | (go_at_call 59; (with_reducible refine (HN.out _).mono ?_); rintro e w1 ⟨rfl, rfl⟩)); go_ret; exact ⟨by simp, HBd.out⟩
end Go.Proofs.YtjnlgaeedcklaaaGreatDoor
