/-
  ExprKnown: the walk, the row, the card.
-/
import Derived.Test.YtjnlgaeedcklaaaGreatDoorXRow
import Derived.Test.YtjnlgaeedcklaaaGreatDoorXKnow
import Derived.Test.YtjnlgaeedcklaaaGreatDoorXEqual
import Derived.Test.YtjnlgaeedcklaaaGreatDoorXMade
import Derived.Test.YtjnlgaeedcklaaaGreatDoorXBoth
set_option linter.unusedVariables false
set_option linter.unusedSimpArgs false
namespace Go.Proofs.YtjnlgaeedcklaaaGreatDoor.exprKnown
open Go.ChangeShapes Go.WideShapes Go.ChangeAt Go.RowKit

set_option maxRecDepth 100000 in
set_option maxHeartbeats 16000000 in
theorem walk (w : World) (hX : TabX w) :
    Calls Tryz.prog 8 #[] w fun e w' => e = .returned (.bool true) ∧ Below w.heap.size w w' := by
  have HX := Lib.hid hX; clear hX
  have HW := Lib.hid law_works
  have hmu := yielded_undef
  go_enter Tryz.func8, Tryz.ntmps8
  go_wp2_with fail
  obtain ⟨W1, hW1⟩ : ∃ W1, w.alloc (.cells knC 53) = W1 := ⟨_, rfl⟩
  obtain ⟨g, hg⟩ : ∃ g, g = w.heap.size := ⟨_, rfl⟩
  have KC : Hid (Blk W1 g 53 knC) := Lib.hid (hW1 ▸ hg ▸ Blk.new w _ _)
  have B1 : Hid (Below w.heap.size w W1) := Lib.hid (hW1 ▸ (Below.refl _ _).alloc (Nat.le_refl _) _)
  rw [hW1, ← hg]
  clear hW1 hg
  go_loopw [42] (fun i wr => ∃ k : Nat, k ≤ 11 ∧ i = .int .i64 k ∧ Below w.heap.size w wr ∧ Blk wr g 53 knC) (fun i _ => 11 - (intOf i).toNat)
  case atStart => exact ⟨0, Nat.zero_le _, rfl, B1.out, KC.out⟩
  case round =>
    obtain ⟨k, hk11, rfl, hb, hK⟩ := hrel
    have BR := Lib.hid hb
    have KR := Lib.hid hK
    have XR := Lib.hid (HX.out.grow hb)
    clear hb hK KC B1
    by_cases hk : k < 11
    · obtain ⟨n1, n2, n3, n4, n5, n6, n7⟩ := kn_facts k hk
      have cA : wr.cell? ⟨g, k * 2, none⟩ = some (.string (strOf (knA k))) := (KR.out.cell (k * 2)).trans (knC_A k hk)
      have cB : wr.cell? ⟨g, k * 2 + 1, none⟩ = some (.string (strOf (knB k))) := (KR.out.cell (k * 2 + 1)).trans (knC_B k hk)
      obtain ⟨x, hx⟩ : ∃ x, (Xs.parse KX (knB k)).1 = x := ⟨_, rfl⟩
      obtain ⟨y, hy⟩ : ∃ y, (Xs.mac KX (knA k)).1 = y := ⟨_, rfl⟩
      obtain ⟨q, hq⟩ : ∃ q, (Xs.mac KX (knA k)).2 = q := ⟨_, rfl⟩
      rw [hq, hy, hx] at n3
      rw [hq, hy] at n4
      have zA : (strOf (knA k)).size ≤ 100000 := by show (knA k).toArray.size ≤ _; rw [List.size_toArray]; omega
      have zB : (strOf (knB k)).size ≤ 100000 := by show (knB k).toArray.size ≤ _; rw [List.size_toArray]; omega
      have hN := fun W h => expr_Normal (strOf (knA k)) zA W h
      have hM := fun W h => expr_Macro (strOf (knA k)) zA W h
      have hP := fun W h => expr_Parse (strOf (knB k)) zB W h
      rw [strOf_data] at hN hM hP
      rw [n1] at hN
      rw [show Xs.mac KX (knA k) = (y, q) by rw [← hy, ← hq]] at hM
      rw [show Xs.parse KX (knB k) = (x, 0, 0) from Prod.ext hx n2] at hP
      have hix : ∀ W, (Instr.index 9 (.string (strOf (knA k))) (.int .i64 0)).run Tryz.prog W = .ok (.int .u8 ((knA k).getD 0 0).toNat) W := fun W => index_zero _ n5 W
      obtain ⟨c, hc⟩ : ∃ c : UInt8, (knA k).getD 0 0 = c := ⟨_, rfl⟩
      rw [hc] at hix n3 n4
      obtain ⟨sA, hsA⟩ : ∃ sA, strOf (knA k) = sA := ⟨_, rfl⟩
      obtain ⟨sB, hsB⟩ : ∃ sB, strOf (knB k) = sB := ⟨_, rfl⟩
      rw [hsA] at cA hN hM hix
      rw [hsB] at cB hP
      have HN : Hid (∀ W, TabX W → Calls Tryz.prog 15 #[.string sA] W fun e w' => e = .returned (.tuple #[.string sB, .int .i64 0, .int .i64 0]) ∧ Below W.heap.size W w') := Lib.hid (by rw [← hsB]; exact hN)
      have HM : Hid (∀ W, TabX W → Calls Tryz.prog 17 #[.string sA] W fun e w' => e = .returned (.tuple #[exV y.second y.minute y.hour y.day y.month y.week y.anyDay y.anyWeek, .bool q]) ∧ Below W.heap.size W w') := Lib.hid hM
      have HP : Hid (∀ W, TabX W → Calls Tryz.prog 13 #[.string sB] W fun e w' => e = .returned (.tuple #[exV x.second x.minute x.hour x.day x.month x.week x.anyDay x.anyWeek, .int .i64 0, .int .i64 0]) ∧ Below W.heap.size W w') := Lib.hid hP
      have e1 : (sB.toList != sB.toList) = false := bne_self_eq_false _
      have e2 : (sB.toList == sB.toList) = true := beq_self_eq_true _
      have hd : decide (k < 11) = true := decide_eq_true hk
      clear hN hM hP hsA hsB hx hy hq hc n1 n2 n5 n6 n7 zA zB
      cases q with
      | true =>
        obtain ⟨rfl, rfl⟩ := n3 rfl
        rw [show (((64 : UInt8).toNat : Nat) : Int) = 64 from rfl] at hix
        clear n3 n4
        go_wp2_with (first
          | (go_at_call 15; (with_reducible refine (HN.out _ (XR.out.alloc _)).mono ?_); clear HN; rintro e w1 ⟨rfl, hb1⟩; have X1 := Lib.hid ((XR.out.alloc _).grow hb1); have A1 := Lib.hid ((Blk.new wr 53 #[.string sA, .string sB]).below hb1 (by simp)); have B1 := Lib.hid ((BR.out.alloc BR.out.size _).trans (hb1.mono (Nat.le_trans BR.out.size (by simp)))); have K1 := Lib.hid ((KR.out.alloc (.cells #[.string sA, .string sB] 53)).below hb1 (KR.out.alloc (.cells #[.string sA, .string sB] 53)).lt); clear hb1; obtain ⟨ac, af⟩ := A1.out.facts)
          | (go_at_call 17; (with_reducible refine (HM.out _ X1.out).mono ?_); clear HM ac af; rintro e w2 ⟨rfl, hb2⟩; have X2 := Lib.hid (X1.out.grow hb2); have A2 := Lib.hid (A1.out.below hb2 A1.out.lt); have B2 := Lib.hid (B1.out.trans (hb2.mono B1.out.size)); have K2 := Lib.hid (K1.out.below hb2 K1.out.lt); clear hb2; obtain ⟨ac, af⟩ := (A2.out.alloc (.cells (exC y.second y.minute y.hour y.day y.month y.week y.anyDay y.anyWeek) 25)).facts)
          | (go_at_call 13; (with_reducible refine (HP.out _ (X2.out.alloc _)).mono ?_); clear HP ac af; rintro e w3 ⟨rfl, hb3⟩; have A3 := Lib.hid ((A2.out.alloc (.cells (exC y.second y.minute y.hour y.day y.month y.week y.anyDay y.anyWeek) 25)).below hb3 (A2.out.alloc (.cells (exC y.second y.minute y.hour y.day y.month y.week y.anyDay y.anyWeek) 25)).lt); have M3 := Lib.hid ((Blk.new w2 25 (exC y.second y.minute y.hour y.day y.month y.week y.anyDay y.anyWeek)).below hb3 (by simp)); have B3 := Lib.hid ((B2.out.alloc B2.out.size _).trans (hb3.mono (Nat.le_trans B2.out.size (by simp)))); have K3 := Lib.hid ((K2.out.alloc (.cells (exC y.second y.minute y.hour y.day y.month y.week y.anyDay y.anyWeek) 25)).below hb3 (K2.out.alloc (.cells (exC y.second y.minute y.hour y.day y.month y.week y.anyDay y.anyWeek) 25)).lt); clear hb3; obtain ⟨ac, af⟩ := (A3.out.alloc (.cells (exC y.second y.minute y.hour y.day y.month y.week y.anyDay y.anyWeek) 25)).facts; obtain ⟨mc, mf⟩ := (M3.out.alloc (.cells (exC y.second y.minute y.hour y.day y.month y.week y.anyDay y.anyWeek) 25)).facts))
        go_roundw
        case rel => exact ⟨k + 1, by omega, by go_num, B3.out.alloc B3.out.size _, K3.out.alloc _⟩
        case measure => simp [intOf]; omega
      | false =>
        obtain ⟨rfl, n8⟩ := n4 rfl
        have HM : Hid (∀ W, TabX W → Calls Tryz.prog 17 #[.string sA] W fun e w' => e = .returned (.tuple #[exV 0 0 0 0 0 0 false false, .bool false]) ∧ Below W.heap.size W w') := HM
        have d0 : (((c.toNat : Nat) : Int) == 64) = false := by
          rw [beq_eq_false_iff_ne]
          intro h
          have h3 : c.toNat = 64 := by omega
          exact n8 (UInt8.toNat_inj.1 (h3.trans (by decide : 64 = (64 : UInt8).toNat)))
        clear n3 n4 n8
        generalize c.toNat = m at hix d0
        go_wp2_with (first
          | (go_at_call 15; (with_reducible refine (HN.out _ (XR.out.alloc _)).mono ?_); clear HN; rintro e w1 ⟨rfl, hb1⟩; have X1 := Lib.hid ((XR.out.alloc _).grow hb1); have A1 := Lib.hid ((Blk.new wr 53 #[.string sA, .string sB]).below hb1 (by simp)); have B1 := Lib.hid ((BR.out.alloc BR.out.size _).trans (hb1.mono (Nat.le_trans BR.out.size (by simp)))); have K1 := Lib.hid ((KR.out.alloc (.cells #[.string sA, .string sB] 53)).below hb1 (KR.out.alloc (.cells #[.string sA, .string sB] 53)).lt); clear hb1; obtain ⟨ac, af⟩ := A1.out.facts)
          | (go_at_call 17; (with_reducible refine (HM.out _ X1.out).mono ?_); clear HM ac af; rintro e w2 ⟨rfl, hb2⟩; have X2 := Lib.hid (X1.out.grow hb2); have A2 := Lib.hid (A1.out.below hb2 A1.out.lt); have B2 := Lib.hid (B1.out.trans (hb2.mono B1.out.size)); have K2 := Lib.hid (K1.out.below hb2 K1.out.lt); clear hb2; obtain ⟨ac, af⟩ := (A2.out.alloc (.cells zeroC 25)).facts)
          | (go_at_call 13; (with_reducible refine (HP.out _ (X2.out.alloc _)).mono ?_); clear HP ac af; rintro e w3 ⟨rfl, hb3⟩; have A3 := Lib.hid ((A2.out.alloc (.cells zeroC 25)).below hb3 (A2.out.alloc (.cells zeroC 25)).lt); have M3 := Lib.hid ((Blk.new w2 25 zeroC).below hb3 (by simp)); have B3 := Lib.hid ((B2.out.alloc B2.out.size _).trans (hb3.mono (Nat.le_trans B2.out.size (by simp)))); have K3 := Lib.hid ((K2.out.alloc (.cells zeroC 25)).below hb3 (K2.out.alloc (.cells zeroC 25)).lt); clear hb3; obtain ⟨ac, af⟩ := (A3.out.alloc (.cells (exC x.second x.minute x.hour x.day x.month x.week x.anyDay x.anyWeek) 25)).facts; obtain ⟨mc, mf⟩ := (M3.out.alloc (.cells (exC x.second x.minute x.hour x.day x.month x.week x.anyDay x.anyWeek) 25)).facts))
        go_roundw
        case rel => exact ⟨k + 1, by omega, by go_num, B3.out.alloc B3.out.size _, K3.out.alloc _⟩
        case measure => simp [intOf]; omega
    · obtain rfl : k = 11 := by omega
      clear hk hk11 KR
      go_wp2_with fail
      obtain ⟨W2, hW2⟩ : ∃ W2, wr.alloc (.cells knD 55) = W2 := ⟨_, rfl⟩
      obtain ⟨g2, hg⟩ : ∃ g2, g2 = wr.heap.size := ⟨_, rfl⟩
      have KD : Hid (Blk W2 g2 55 knD) := Lib.hid (hW2 ▸ hg ▸ Blk.new wr _ _)
      have B2 : Hid (Below w.heap.size w W2) := Lib.hid (hW2 ▸ BR.out.alloc BR.out.size _)
      rw [hW2, ← hg]
      clear hW2 hg BR XR
      go_loopw [121] (fun i wr => ∃ k : Nat, k ≤ 11 ∧ i = .int .i64 k ∧ Below w.heap.size w wr ∧ Blk wr g2 55 knD) (fun i _ => 11 - (intOf i).toNat)
      case atStart => exact ⟨0, Nat.zero_le _, rfl, B2.out, KD.out⟩
      case round =>
        obtain ⟨k, hk11, rfl, hb, hK⟩ := hrel
        have BR := Lib.hid hb
        have KR := Lib.hid hK
        have XR := Lib.hid (HX.out.grow hb)
        clear hb hK KD B2
        by_cases hk : k < 11
        · obtain ⟨n1, n2⟩ := kn_wrong k hk
          obtain ⟨c1, c2, c3⟩ := knD_S k hk
          have cA : wr.cell? ⟨g2, k * 3, none⟩ = some (.string (strOf (knS k))) := (KR.out.cell (k * 3)).trans c1
          have cB := (KR.out.cell (k * 3 + 1)).trans c2
          have cC := (KR.out.cell (k * 3 + 2)).trans c3
          have zA : (strOf (knS k)).size ≤ 100000 := by show (knS k).toArray.size ≤ _; rw [List.size_toArray]; omega
          have hP := fun W h => expr_Parse (strOf (knS k)) zA W h
          rw [strOf_data, n1] at hP
          obtain ⟨p, hp⟩ : ∃ p : Nat, (knU.getD k ([], 0, 0)).2.1 = p := ⟨_, rfl⟩
          obtain ⟨er, her⟩ : ∃ er : Int, (knU.getD k ([], 0, 0)).2.2 = er := ⟨_, rfl⟩
          obtain ⟨sA, hsA⟩ : ∃ sA, strOf (knS k) = sA := ⟨_, rfl⟩
          rw [hsA] at cA
          rw [hsA, hp, her] at hP
          rw [hp] at cB
          rw [her] at cC
          have HP : Hid (∀ W, TabX W → Calls Tryz.prog 13 #[.string sA] W fun e w' => e = .returned (.tuple #[exV 0 0 0 0 0 0 false false, .int .i64 p, .int .i64 er]) ∧ Below W.heap.size W w') := Lib.hid hP
          have e1 : ((p : Int) != (p : Int)) = false := bne_self_eq_false _
          have e2 : (er != er) = false := bne_self_eq_false _
          have hd : decide (k < 11) = true := decide_eq_true hk
          clear hP hsA hp her n1 n2 c1 c2 c3 zA
          go_wp2_with (go_at_call 13; (with_reducible refine (HP.out _ (XR.out.alloc _)).mono ?_); clear HP; rintro e w1 ⟨rfl, hb1⟩; have A1 := Lib.hid ((Blk.new wr 55 #[.string sA, .int .i64 p, .int .i64 er]).below hb1 (by simp)); have B1 := Lib.hid ((BR.out.alloc BR.out.size _).trans (hb1.mono (Nat.le_trans BR.out.size (by simp)))); have K1 := Lib.hid ((KR.out.alloc (.cells #[.string sA, .int .i64 p, .int .i64 er] 55)).below hb1 (KR.out.alloc (.cells #[.string sA, .int .i64 p, .int .i64 er] 55)).lt); clear hb1; obtain ⟨ac, af⟩ := (A1.out.alloc (.cells zeroC 25)).facts)
          refine ⟨?_, ?_⟩
          · repeat apply Exists.intro
            refine ⟨?_, ?_⟩
            · exact ⟨k + 1, by omega, by go_num, B1.out.alloc B1.out.size _, K1.out.alloc _⟩
            · rfl
          · simp [intOf]; omega
        · obtain rfl : k = 11 := by omega
          clear hk hk11 KR
          obtain ⟨gd, hgd⟩ : ∃ gd, knG = gd := ⟨_, rfl⟩
          have Hgd := Lib.hid hgd
          have hsg := small_of_check (hgd ▸ knG_ok)
          have HM : Hid (∀ W, Calls Tryz.prog 25 #[.agg #[.int .u64 0, .int .u64 0, .int .u64 0, .int .u64 0, .int .u64 0, .int .u64 0, .int .u8 0]] W fun e w' => e = .returned (exV gd.second gd.minute gd.hour gd.day gd.month gd.week gd.anyDay gd.anyWeek) ∧ Below W.heap.size W w') := Lib.hid fun W => by
            have h := law_Made (fun _ => 0) 0 (fun _ _ => by decide) (by decide) W
            rw [show madeX (fun _ => 0) (decide (0 % 2 = 1)) (decide (0 / 2 % 2 = 1)) = gd from (show madeX (fun _ => 0) (decide (0 % 2 = 1)) (decide (0 / 2 % 2 = 1)) = knG by decide +kernel).trans hgd] at h
            exact h
          have or1 : bits .or .u64 (gd.minute : Int) 1152921504606846976 = ((gd.minute ||| 1152921504606846976 : Nat) : Int) := u64_or_nat gd.minute 1152921504606846976 (hsg.set 1 (by decide)) (by decide)
          have or2 : bits .or .u64 (gd.hour : Int) 16777216 = ((gd.hour ||| 16777216 : Nat) : Int) := u64_or_nat gd.hour 16777216 (hsg.set 2 (by decide)) (by decide)
          have or3 : bits .or .u64 (gd.day : Int) 1 = ((gd.day ||| 1 : Nat) : Int) := u64_or_nat gd.day 1 (hsg.set 3 (by decide)) (by decide)
          have or5 : bits .or .u64 (gd.week : Int) 128 = ((gd.week ||| 128 : Nat) : Int) := u64_or_nat gd.week 128 (hsg.set 5 (by decide)) (by decide)
          clear hgd hsg
          go_wp2_with (go_at_call 25; (with_reducible refine (HM.out _).mono ?_); clear HM; rintro e w1 ⟨rfl, hb1⟩; have B1 := Lib.hid (BR.out.trans (hb1.mono BR.out.size)); clear hb1)
          obtain ⟨W3, hW3⟩ : ∃ W3, w1.alloc (.cells (exC gd.second gd.minute gd.hour gd.day gd.month gd.week gd.anyDay gd.anyWeek) 25) = W3 := ⟨_, rfl⟩
          obtain ⟨gg, hgg⟩ : ∃ gg, gg = w1.heap.size := ⟨_, rfl⟩
          have KG : Hid (Blk W3 gg 25 (exC gd.second gd.minute gd.hour gd.day gd.month gd.week gd.anyDay gd.anyWeek)) := Lib.hid (hW3 ▸ hgg ▸ Blk.new w1 _ _)
          have B3 : Hid (Below w.heap.size w W3) := Lib.hid (hW3 ▸ B1.out.alloc B1.out.size _)
          rw [hW3, ← hgg]
          clear hW3 hgg BR XR B1
          go_loopw [150] (fun i wr => ∃ k : Nat, k ≤ 8 ∧ i = .int .i64 k ∧ Below w.heap.size w wr ∧ Blk wr gg 25 (exC gd.second gd.minute gd.hour gd.day gd.month gd.week gd.anyDay gd.anyWeek)) (fun i _ => 8 - (intOf i).toNat)
          case atStart => exact ⟨0, Nat.zero_le _, rfl, B3.out, KG.out⟩
          case round =>
            obtain ⟨k, hk8, rfl, hb, hK⟩ := hrel
            have BR := Lib.hid hb
            have KR := Lib.hid hK
            have HXR := Lib.hid (HX.out.grow hb)
            obtain ⟨kc, kf⟩ := hK.facts
            clear hb hK KG B3
            by_cases hk : k < 8
            · have hd : decide (k < 8) = true := decide_eq_true hk
              go_upto_region 22 with fail
              obtain ⟨W4, hW4⟩ : ∃ W4, wr.alloc (.cells (exC gd.second gd.minute gd.hour gd.day gd.month gd.week gd.anyDay gd.anyWeek) 25) = W4 := ⟨_, rfl⟩
              obtain ⟨gb, hgb⟩ : ∃ gb, gb = wr.heap.size := ⟨_, rfl⟩
              have S4 : Hid (KnS w (exC gd.second gd.minute gd.hour gd.day gd.month gd.week gd.anyDay gd.anyWeek) (exC gd.second gd.minute gd.hour gd.day gd.month gd.week gd.anyDay gd.anyWeek) gg gb W4) := Lib.hid (hW4 ▸ hgb ▸ ⟨KR.out.alloc _, Blk.new _ _ _, BR.out.alloc BR.out.size _⟩)
              have HL : Hid (gg ≠ gb ∧ w.heap.size ≤ gb) := Lib.hid ⟨by have := KR.out.lt; omega, by have := BR.out.size; omega⟩
              rw [hW4, ← hgb]
              clear hW4 hgb kc kf
              obtain ⟨bc, bf⟩ := S4.out.kb.facts
              go_upto_block 6 with fail
              go_cut [] (fun wx => ∃ y : Xs.Ex, (Xs.checkB KX y = false ∧ SmallX y ∧ y ≠ gd) ∧ KnS w (exC gd.second gd.minute gd.hour gd.day gd.month gd.week gd.anyDay gd.anyWeek) (exC y.second y.minute y.hour y.day y.month y.week y.anyDay y.anyWeek) gg gb wx)
              case first =>
                have hki := hk
                rcases k with _ | _ | _ | _ | _ | _ | _ | _ | k
                · clear hk hki hk8 hd
                  go_wp2_with fail
                  go_meet
                  exact ⟨⟨0, gd.minute, gd.hour, gd.day, gd.month, gd.week, gd.anyDay, gd.anyWeek⟩, by rw [← Hgd.out]; exact kn_bad 0 (by decide), ⟨(S4.out.ka.far (p := ⟨gb, 0, none⟩) HL.out.1 (.int .u64 0)), (S4.out.kb.set_ 0 (.int .u64 0)), (S4.out.bl.setCell (p := ⟨gb, 0, none⟩) HL.out.2 (.int .u64 0))⟩⟩
                · clear hk hki hk8 hd
                  go_wp2_with fail
                  go_meet
                  exact ⟨⟨gd.second, (gd.minute ||| 1152921504606846976), gd.hour, gd.day, gd.month, gd.week, gd.anyDay, gd.anyWeek⟩, by rw [← Hgd.out]; exact kn_bad 1 (by decide), ⟨(S4.out.ka.far (p := ⟨gb, 1, none⟩) HL.out.1 (.int .u64 (gd.minute ||| 1152921504606846976 : Nat))), (S4.out.kb.set_ 1 (.int .u64 (gd.minute ||| 1152921504606846976 : Nat))), (S4.out.bl.setCell (p := ⟨gb, 1, none⟩) HL.out.2 (.int .u64 (gd.minute ||| 1152921504606846976 : Nat)))⟩⟩
                · clear hk hki hk8 hd
                  go_wp2_with fail
                  go_meet
                  exact ⟨⟨gd.second, gd.minute, (gd.hour ||| 16777216), gd.day, gd.month, gd.week, gd.anyDay, gd.anyWeek⟩, by rw [← Hgd.out]; exact kn_bad 2 (by decide), ⟨(S4.out.ka.far (p := ⟨gb, 2, none⟩) HL.out.1 (.int .u64 (gd.hour ||| 16777216 : Nat))), (S4.out.kb.set_ 2 (.int .u64 (gd.hour ||| 16777216 : Nat))), (S4.out.bl.setCell (p := ⟨gb, 2, none⟩) HL.out.2 (.int .u64 (gd.hour ||| 16777216 : Nat)))⟩⟩
                · clear hk hki hk8 hd
                  go_wp2_with fail
                  go_meet
                  exact ⟨⟨gd.second, gd.minute, gd.hour, (gd.day ||| 1), gd.month, gd.week, gd.anyDay, gd.anyWeek⟩, by rw [← Hgd.out]; exact kn_bad 3 (by decide), ⟨(S4.out.ka.far (p := ⟨gb, 3, none⟩) HL.out.1 (.int .u64 (gd.day ||| 1 : Nat))), (S4.out.kb.set_ 3 (.int .u64 (gd.day ||| 1 : Nat))), (S4.out.bl.setCell (p := ⟨gb, 3, none⟩) HL.out.2 (.int .u64 (gd.day ||| 1 : Nat)))⟩⟩
                · clear hk hki hk8 hd
                  go_wp2_with fail
                  go_meet
                  exact ⟨⟨gd.second, gd.minute, gd.hour, gd.day, 8192, gd.week, gd.anyDay, gd.anyWeek⟩, by rw [← Hgd.out]; exact kn_bad 4 (by decide), ⟨(S4.out.ka.far (p := ⟨gb, 4, none⟩) HL.out.1 (.int .u64 8192)), (S4.out.kb.set_ 4 (.int .u64 8192)), (S4.out.bl.setCell (p := ⟨gb, 4, none⟩) HL.out.2 (.int .u64 8192))⟩⟩
                · clear hk hki hk8 hd
                  go_wp2_with fail
                  go_meet
                  exact ⟨⟨gd.second, gd.minute, gd.hour, gd.day, gd.month, (gd.week ||| 128), gd.anyDay, gd.anyWeek⟩, by rw [← Hgd.out]; exact kn_bad 5 (by decide), ⟨(S4.out.ka.far (p := ⟨gb, 5, none⟩) HL.out.1 (.int .u64 (gd.week ||| 128 : Nat))), (S4.out.kb.set_ 5 (.int .u64 (gd.week ||| 128 : Nat))), (S4.out.bl.setCell (p := ⟨gb, 5, none⟩) HL.out.2 (.int .u64 (gd.week ||| 128 : Nat)))⟩⟩
                · clear hk hki hk8 hd
                  go_wp2_with fail
                  go_meet
                  exact ⟨⟨gd.second, gd.minute, gd.hour, 2, gd.month, gd.week, true, gd.anyWeek⟩, by rw [← Hgd.out]; exact kn_bad 6 (by decide), ⟨((S4.out.ka.far (p := ⟨gb, 3, none⟩) HL.out.1 (.int .u64 2)).far (p := ⟨gb, 6, none⟩) HL.out.1 (.bool true)), ((S4.out.kb.set_ 3 (.int .u64 2)).set_ 6 (.bool true)), ((S4.out.bl.setCell (p := ⟨gb, 3, none⟩) HL.out.2 (.int .u64 2)).setCell (p := ⟨gb, 6, none⟩) HL.out.2 (.bool true))⟩⟩
                · clear hk hki hk8 hd
                  go_wp2_with fail
                  go_meet
                  exact ⟨⟨gd.second, gd.minute, gd.hour, gd.day, gd.month, 2, gd.anyDay, true⟩, by rw [← Hgd.out]; exact kn_bad 7 (by decide), ⟨((S4.out.ka.far (p := ⟨gb, 5, none⟩) HL.out.1 (.int .u64 2)).far (p := ⟨gb, 7, none⟩) HL.out.1 (.bool true)), ((S4.out.kb.set_ 5 (.int .u64 2)).set_ 7 (.bool true)), ((S4.out.bl.setCell (p := ⟨gb, 5, none⟩) HL.out.2 (.int .u64 2)).setCell (p := ⟨gb, 7, none⟩) HL.out.2 (.bool true))⟩⟩
                · omega
              case rest =>
                obtain ⟨y, ⟨hy1, hy2, hy3⟩, hS⟩ := hcut
                have SC := Lib.hid hS
                obtain ⟨ac, af⟩ := hS.ka.facts
                obtain ⟨bc, bf⟩ := hS.kb.facts
                have HPr : Hid (∀ W, Tabs W → Calls Tryz.prog 19 #[exV y.second y.minute y.hour y.day y.month y.week y.anyDay y.anyWeek] W fun e w' => e = .returned (.tuple #[.string ByteArray.empty, .int .i64 16]) ∧ Below W.heap.size W w') := Lib.hid fun W h => by
                  have := expr_Print y W hy2 h
                  rw [show Xs.printX KX y = ([], 16) by unfold Xs.printX; rw [if_neg (by rw [hy1]; decide)]] at this
                  exact this
                have HB1 : Hid (∀ W, Tabs W → Calls Tryz.prog 27 #[exV gd.second gd.minute gd.hour gd.day gd.month gd.week gd.anyDay gd.anyWeek, exV y.second y.minute y.hour y.day y.month y.week y.anyDay y.anyWeek] W fun e w' => e = .returned (.tuple #[exV 0 0 0 0 0 0 false false, .bool false, .int .i64 16]) ∧ Below W.heap.size W w') := Lib.hid fun W h => both_bad gd.second gd.minute gd.hour gd.day gd.month gd.week gd.anyDay gd.anyWeek y.second y.minute y.hour y.day y.month y.week y.anyDay y.anyWeek W h (small_of_check (x := gd) (Hgd.out ▸ knG_ok)) hy2 (Or.inr ⟨Hgd.out ▸ knG_ok, hy1⟩)
                have HB2 : Hid (∀ W, Tabs W → Calls Tryz.prog 27 #[exV y.second y.minute y.hour y.day y.month y.week y.anyDay y.anyWeek, exV gd.second gd.minute gd.hour gd.day gd.month gd.week gd.anyDay gd.anyWeek] W fun e w' => e = .returned (.tuple #[exV 0 0 0 0 0 0 false false, .bool false, .int .i64 16]) ∧ Below W.heap.size W w') := Lib.hid fun W h => both_bad y.second y.minute y.hour y.day y.month y.week y.anyDay y.anyWeek gd.second gd.minute gd.hour gd.day gd.month gd.week gd.anyDay gd.anyWeek W h hy2 (small_of_check (x := gd) (Hgd.out ▸ knG_ok)) (Or.inl hy1)
                have HSe : Hid (∀ W, Tabs W → Calls Tryz.prog 21 #[exV y.second y.minute y.hour y.day y.month y.week y.anyDay y.anyWeek] W fun e w' => e = .returned (.tuple #[.int .i64 0, .int .i64 16]) ∧ Below W.heap.size W w') := Lib.hid fun W h => by
                  have := expr_Seconds y W hy2 h
                  rw [hy1, if_neg (by decide), chk_bad hy1] at this
                  exact this
                have HCk : Hid (∀ W, Tabs W → Calls Tryz.prog 23 #[exV y.second y.minute y.hour y.day y.month y.week y.anyDay y.anyWeek] W fun e w' => e = .returned (.int .i64 16) ∧ Below W.heap.size W w') := Lib.hid fun W h => by
                  have := expr_Check y W hy2 h
                  rw [chk_bad hy1] at this
                  exact this
                have HE1 : Hid (∀ W, Calls Tryz.prog 29 #[exV gd.second gd.minute gd.hour gd.day gd.month gd.week gd.anyDay gd.anyWeek, exV y.second y.minute y.hour y.day y.month y.week y.anyDay y.anyWeek] W fun e w' => e = .returned (.bool false) ∧ Below W.heap.size W w') := Lib.hid fun W => by
                  have := expr_Equal gd y W
                  rw [decide_eq_false (Ne.symm hy3)] at this
                  exact this
                have HE2 : Hid (∀ W, Calls Tryz.prog 29 #[exV y.second y.minute y.hour y.day y.month y.week y.anyDay y.anyWeek, exV y.second y.minute y.hour y.day y.month y.week y.anyDay y.anyWeek] W fun e w' => e = .returned (.bool true) ∧ Below W.heap.size W w') := Lib.hid fun W => by
                  have := expr_Equal y y W
                  rw [decide_eq_true rfl] at this
                  exact this
                clear hy1 hy2 hy3 hS or1 or2 or3 or5
                go_wp2_with (first
                  | (go_at_call 19; (with_reducible refine (HPr.out _ (HX.out.grow SC.out.bl).tabs).mono ?_); clear HPr ac af bc bf; rintro e w1 ⟨rfl, hb1⟩; have S1 := Lib.hid (SC.out.grow hb1); clear hb1; obtain ⟨ac, af⟩ := S1.out.ka.facts; obtain ⟨bc, bf⟩ := S1.out.kb.facts)
                  | (go_at_call 27; (with_reducible refine (HB1.out _ (HX.out.grow S1.out.bl).tabs).mono ?_); clear HB1 ac af bc bf; rintro e w2 ⟨rfl, hb2⟩; have S2 := Lib.hid ((S1.out.grow hb2).alloc (.cells zeroC 25)); clear hb2; obtain ⟨ac, af⟩ := S2.out.ka.facts; obtain ⟨bc, bf⟩ := S2.out.kb.facts)
                  | (go_at_call 27; (with_reducible refine (HB2.out _ (HX.out.grow S2.out.bl).tabs).mono ?_); clear HB2 ac af bc bf; rintro e w3 ⟨rfl, hb3⟩; have S3 := Lib.hid ((S2.out.grow hb3).alloc (.cells zeroC 25)); clear hb3; obtain ⟨ac, af⟩ := S3.out.ka.facts; obtain ⟨bc, bf⟩ := S3.out.kb.facts)
                  | (go_at_call 21; (with_reducible refine (HSe.out _ (HX.out.grow S3.out.bl).tabs).mono ?_); clear HSe ac af bc bf; rintro e w4 ⟨rfl, hb4⟩; have S5 := Lib.hid (S3.out.grow hb4); clear hb4; obtain ⟨ac, af⟩ := S5.out.ka.facts; obtain ⟨bc, bf⟩ := S5.out.kb.facts)
                  | (go_at_call 23; (with_reducible refine (HCk.out _ (HX.out.grow S5.out.bl).tabs).mono ?_); clear HCk ac af bc bf; rintro e w5 ⟨rfl, hb5⟩; have S6 := Lib.hid (S5.out.grow hb5); clear hb5; obtain ⟨ac, af⟩ := S6.out.ka.facts; obtain ⟨bc, bf⟩ := S6.out.kb.facts)
                  | (go_at_call 29; (with_reducible refine (HE1.out _).mono ?_); clear HE1 ac af bc bf; rintro e w6 ⟨rfl, hb6⟩; have S7 := Lib.hid (S6.out.grow hb6); clear hb6; obtain ⟨ac, af⟩ := S7.out.ka.facts; obtain ⟨bc, bf⟩ := S7.out.kb.facts)
                  | (go_at_call 29; (with_reducible refine (HE2.out _).mono ?_); clear HE2 ac af bc bf; rintro e w7 ⟨rfl, hb7⟩; have S8 := Lib.hid (S7.out.grow hb7); clear hb7))
                exact ⟨⟨k + 1, by omega, by go_num, S8.out.bl, S8.out.ka⟩, by simp [intOf]; omega⟩
            · obtain rfl : k = 8 := by omega
              clear hk hk8 KR kc kf or1 or2 or3 or5
              go_wp2_with (go_at_call 12; (with_reducible refine (HW.out _ HXR.out).mono ?_); rintro e w9 ⟨rfl, hb9⟩)
              go_ret
              exact ⟨rfl, BR.out.trans (hb9.mono BR.out.size)⟩

set_option maxRecDepth 100000 in
theorem contract (H : Type) (enc : TypeId × Value → H) (W : World) (base : Nat) (args : Array Value) (ds gs : List (DataW H)) (before : List MemPlace)
    (hval : ∀ (j : Nat) t v, Tryz.f8.params[j]? = some t → args[j]? = some v → Value.okWide Tryz.prog W .any base t v)
    (hW : DataW.Whole enc Tryz.prog Tryz.f8.params.toList Rows.exprKnownSpec.vars false W args.toList ds gs before) (hL : laidMetH Tryz.prog Rows.exprKnownRow.laid W) (hS : W.ShapedOpen Tryz.prog) :
    Calls Tryz.prog 8 args W fun e W' => ∃ v, e = .returned v ∧ Rows.exprKnownSpec.post enc Tryz.prog Tryz.f8 false true false false W args v W' := by
  have hT : TabX W := XRow.tabs_of hL hS
  have hW' := hW
  obtain ⟨p, q, hA0, hV, rfl, hfz, hnd⟩ := hW
  have hA : DataW.TrodAll enc Tryz.prog W 0 (fun _ => true) true Tryz.f8.params.toList args.toList ds p := hA0
  rw [Tryz.params8] at hA hval
  obtain ⟨hargs, rfl, rfl⟩ := trodAll_nil hA
  obtain rfl : args = #[] := by cases args; simp_all
  obtain ⟨rfl, rfl⟩ := trodVars_none hV
  clear hA0
  simp only [List.append_nil] at hW'
  refine (walk   W hT ).mono fun e W' ⟨he, hb⟩ => ?_
  subst he
  exact ⟨_, rfl, _, _, _, [], [], [], hW', trodAll_cons_mk (shut_bool Tryz.underlying4 _) trodAll_mk0, trodAll_mk0, rfl, hb.frame _, fun h => by cases h⟩

set_option maxRecDepth 100000 in
theorem lifted (os : Os) (started : os.Started) (H : Type) (enc : TypeId × Value → H) (F : Stop.Interp) :
    ReturnsInHanded {} Tryz.checked os 8 .any ((OpenSpec.ofChange Rows.exprKnownSpec).preRow enc Tryz.prog Tryz.f8 Rows.exprKnownRow.domain false Rows.exprKnownRow.laid) (((OpenSpec.ofChange Rows.exprKnownSpec).at F).post enc Tryz.prog Tryz.f8 false true false false) := by
  refine returnsInHanded_of_row (C := Tryz.checked) (s := OpenSpec.ofChange Rows.exprKnownSpec) XRow.own started (by kernel_rfl) Tryz.func8
    (ChangeSpec.witness_shaped (enc := enc) (C := Tryz.checked) (os := os) (X := fun w _ => laidMetH Tryz.prog XRow.laidL w) false (World.laidAll Tryz.prog os XRow.laidL) #[] 8 (World.laidAll_os _ _ _)
      (XRow.wit_shaped os _) (by kernel_rfl) (by kernel_rfl) (by kernel_rfl) (XRow.wit_laid os _)) ?_
  intro W base args ds gs before hval hW _ _ _ hL hS _
  exact contract H enc W base args ds gs before hval hW hL hS

theorem said : Rows.ExprKnownSaid :=
  OpenClaim.holds_of_cond 8 Tryz.f8 rfl rfl rfl rfl rfl rfl rfl ⟨rfl, rfl, rfl, rfl, rfl⟩ rfl rfl rfl rfl rfl (by kernel_rfl) Tryz.func8 (by kernel_rfl)
    (of_decide_eq_true (by kernel_rfl)) (by unfold Func.isWrapper; first | (rw [if_pos (by decide +kernel)]; kernel_rfl) | (rw [if_neg (by decide +kernel)]; exact ⟨rfl, rfl⟩))
    (fun os started H enc _ F => by rw [OpenClaim.pre_eq_preRow]; exact lifted os started H enc F)

theorem plain (f : FuncId) (fn : Func) (hf : Tryz.pinned.checked.prog.funcNamed "wakeman/wakemanlaw07.ExprKnown" = some f) (hfn : Tryz.pinned.checked.prog.funcs[f]? = some fn) :
    true = Tryz.pinned.checked.prog.looks [] ∧ ∀ (j : Nat) t, fn.params[j]? = some t → Tryz.pinned.checked.prog.wantsStandIn t = false := by
  obtain rfl : f = 8 := Option.some.inj ((show Tryz.prog.funcNamed "wakeman/wakemanlaw07.ExprKnown" = some 8 by kernel_rfl).symm.trans hf) |>.symm
  obtain rfl : fn = Tryz.f8 := (Option.some.inj (Tryz.func8.symm.trans hfn)).symm
  refine ⟨by kernel_rfl, fun j t ht => ?_⟩
  rw [Tryz.params8] at ht
  have hm : t ∈ ([] : List TypeId) := by simpa using Array.mem_of_getElem? ht
  have hall : (([] : List TypeId).all fun u => !Tryz.prog.wantsStandIn u) = true := by kernel_rfl
  exact (show Tryz.prog.wantsStandIn t = false by simpa using List.all_eq_true.1 hall t hm)

theorem card : Rows.ExprKnownCardSaid :=
  Claim7.holds_tied_plain_at .later [] _ _ _ _ said (fun _ h => by cases h) (by kernel_rfl) (fun _ h => by cases h) exprKnown_row_tie rfl ⟨rfl, rfl⟩ (by kernel_rfl) rfl plain (by kernel_rfl)
#print axioms card
end Go.Proofs.YtjnlgaeedcklaaaGreatDoor.exprKnown
