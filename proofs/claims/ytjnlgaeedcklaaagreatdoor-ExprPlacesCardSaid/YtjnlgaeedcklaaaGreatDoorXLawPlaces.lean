/-
  ExprPlaces: the walk, the row, the card.
-/
import Derived.Test.YtjnlgaeedcklaaaGreatDoorXRow
import Derived.Test.YtjnlgaeedcklaaaGreatDoorXBlankP
import Derived.Test.YtjnlgaeedcklaaaGreatDoorXMade
import Derived.Test.YtjnlgaeedcklaaaGreatDoorXWorks
import Derived.Test.YtjnlgaeedcklaaaGreatDoorXPlain6
import Derived.ChangeMaps5
set_option linter.unusedVariables false
set_option linter.unusedSimpArgs false
namespace Go.Proofs.YtjnlgaeedcklaaaGreatDoor.exprPlaces
open Go.ChangeShapes Go.WideShapes Go.ChangeAt Go.RowKit

set_option maxRecDepth 100000 in
set_option maxHeartbeats 16000000 in
theorem walkN (l : Nat → Nat) (kk : Nat) (a1 : Nat) (a2 : ByteArray) (hl : ∀ i, i < 6 → l i < 18446744073709551616) (hk : kk < 256) (w1 : a1 < 256) (w2 : a2.size ≤ maxLen) (w : World) (hX : TabX w) :
    Calls Tryz.prog 10 #[setsV l kk, .int .u8 a1, .string a2] w fun e w' => e = .returned (.bool true) ∧ Below w.heap.size w w' := by
  have HX := Lib.hid hX; clear hX
  have HW := Lib.hid law_works
  have hw2 : a2.size ≤ 9223372036854775807 := w2
  clear w2
  obtain ⟨x, hx⟩ : ∃ x, madeX l (decide (kk % 2 = 1)) (decide (kk / 2 % 2 = 1)) = x := ⟨_, rfl⟩
  have hc : Xs.checkB KX x = true := hx ▸ made_check _ _ _
  have HM : Hid (∀ W, Calls Tryz.prog 25 #[setsV l kk] W fun e w' => e = .returned (exV x.second x.minute x.hour x.day x.month x.week x.anyDay x.anyWeek) ∧ Below W.heap.size W w') := Lib.hid fun W => by
    have := law_Made l kk hl hk W
    rw [hx] at this
    exact this
  obtain ⟨T, hT⟩ : ∃ T, strOf (Xs.joinS (Xs.texts KX x)) = T := ⟨_, rfl⟩
  have hTs : T.size ≤ 100000 := by
    have hTl : T.data.toList = Xs.joinS (Xs.texts KX x) := by rw [← hT]; rfl
    have h := texts_join_len x
    rw [← hTl, Array.length_toList] at h
    exact Nat.le_trans h (by decide)
  have hPr := fun W h => expr_Print x W (small_of_check hc) h
  rw [printX_ok hc] at hPr
  have HPr : Hid (∀ W, Tabs W → Calls Tryz.prog 19 #[exV x.second x.minute x.hour x.day x.month x.week x.anyDay x.anyWeek] W fun e w' => e = .returned (.tuple #[.string T, .int .i64 0]) ∧ Below W.heap.size W w') := Lib.hid (by rw [← hT]; exact hPr)
  have HSp := Lib.hid fun W h => split_words hc W h T hT hTs
  have Hc := Lib.hid hc
  have BX : Hid (Below w.heap.size w (w.alloc (.cells (setsC l kk) 42))) := Lib.hid ((Below.refl _ _).alloc (Nat.le_refl _) _)
  have hmu := yielded_undef
  clear hPr hx hl hk hT hTs hc
  by_cases h1 : a2.size < 1
  · have d1 : decide (a2.size < 1) = true := decide_eq_true h1
    have d1' : decide ((a2.size : Int) < 1) = true := decide_eq_true (by omega)
    clear HSp
    go_enter Tryz.func10, Tryz.ntmps10
    go_wp2_with (first
      | (go_at_call 25; (with_reducible refine (HM.out _).mono ?_); clear HM; rintro e w2 ⟨rfl, hb2⟩; have B2 := Lib.hid (BX.out.trans (hb2.mono BX.out.size)); clear hb2)
      | (go_at_call 19; (with_reducible refine (HPr.out _ (HX.out.grow B2.out).tabs).mono ?_); clear HPr; rintro e w3 ⟨rfl, hb3⟩; have B3 := Lib.hid (B2.out.trans (hb3.mono B2.out.size)); clear hb3)
      | (go_at_call 12; (with_reducible refine (HW.out _ (HX.out.grow B3.out)).mono ?_); rintro e w9 ⟨rfl, hb9⟩))
    go_ret
    exact ⟨rfl, B3.out.trans (hb9.mono B3.out.size)⟩
  have d1 : decide (a2.size < 1) = false := decide_eq_false h1
  have d1' : decide ((a2.size : Int) < 1) = false := decide_eq_false (by omega)
  by_cases h2 : 20 < a2.size
  · have d2 : decide (20 < a2.size) = true := decide_eq_true h2
    have d2' : decide ((20 : Int) < (a2.size : Int)) = true := decide_eq_true (by omega)
    clear HSp
    go_enter Tryz.func10, Tryz.ntmps10
    go_wp2_with (first
      | (go_at_call 25; (with_reducible refine (HM.out _).mono ?_); clear HM; rintro e w2 ⟨rfl, hb2⟩; have B2 := Lib.hid (BX.out.trans (hb2.mono BX.out.size)); clear hb2)
      | (go_at_call 19; (with_reducible refine (HPr.out _ (HX.out.grow B2.out).tabs).mono ?_); clear HPr; rintro e w3 ⟨rfl, hb3⟩; have B3 := Lib.hid (B2.out.trans (hb3.mono B2.out.size)); clear hb3)
      | (go_at_call 12; (with_reducible refine (HW.out _ (HX.out.grow B3.out)).mono ?_); rintro e w9 ⟨rfl, hb9⟩))
    go_ret
    exact ⟨rfl, B3.out.trans (hb9.mono B3.out.size)⟩
  have d2 : decide (20 < a2.size) = false := decide_eq_false h2
  have d2' : decide ((20 : Int) < (a2.size : Int)) = false := decide_eq_false (by omega)
  have hsz : a2.size ≤ 20 := by omega
  have HC := Lib.hid fun W => contains_blank a2 W (by omega)
  by_cases h3 : 0 ≤ Lib.indexAny a2.data.toList [32, 9]
  · rw [decide_eq_true h3] at HC
    clear HSp h3
    go_enter Tryz.func10, Tryz.ntmps10
    go_wp2_with (first
      | (go_at_call 25; (with_reducible refine (HM.out _).mono ?_); clear HM; rintro e w2 ⟨rfl, hb2⟩; have B2 := Lib.hid (BX.out.trans (hb2.mono BX.out.size)); clear hb2)
      | (go_at_call 19; (with_reducible refine (HPr.out _ (HX.out.grow B2.out).tabs).mono ?_); clear HPr; rintro e w3 ⟨rfl, hb3⟩; have B3 := Lib.hid (B2.out.trans (hb3.mono B2.out.size)); clear hb3)
      | (go_at_call 31; (with_reducible refine (HC.out _).mono ?_); clear HC; rintro e w4 ⟨rfl, hb4⟩; have B4 := Lib.hid (B3.out.trans (hb4.mono B3.out.size)); clear hb4)
      | (go_at_call 12; (with_reducible refine (HW.out _ (HX.out.grow B4.out)).mono ?_); rintro e w9 ⟨rfl, hb9⟩))
    go_ret
    exact ⟨rfl, B4.out.trans (hb9.mono B4.out.size)⟩
  rw [decide_eq_false h3] at HC
  have hnb : Xs.Nb a2.data.toList := nb_of_index h3 (by intro h; apply h1; show a2.data.size < 1; rw [← Array.length_toList, h]; decide)
  clear h1 h2 h3
  obtain ⟨n, hn⟩ : ∃ n, (Xs.texts KX x).length = n := ⟨_, rfl⟩
  have hn56 : n = 5 ∨ n = 6 := by rw [← hn, Xs.texts_len]; split <;> simp
  obtain ⟨k, hk⟩ : ∃ k, k = a1 % n := ⟨_, rfl⟩
  have hkn : k < n := by rw [hk]; exact Nat.mod_lt _ (by omega)
  have hkm : (a1 : Int) % (n : Int) = (k : Int) := by rw [hk]; exact (Int.natCast_emod a1 n).symm
  obtain ⟨i, hi⟩ : ∃ i, i = 6 - n + k := ⟨_, rfl⟩
  have hi6 : i < 6 := by omega
  have his : (6 : Int) - (n : Int) + (k : Int) = (i : Int) := by omega
  have his2 : (6 : Int) - (n : Int) = ((6 - n : Nat) : Int) := by omega
  obtain ⟨st, sb, pl, er, hp⟩ : ∃ st sb pl er, Fs.parse (KX i) a2.data.toList = (st, sb, pl, er) := ⟨_, _, _, _, rfl⟩
  have hlaw := Xs.place_law kinds_ok Hc.out k (by rw [hn]; exact hkn) a2.data.toList hnb
  rw [hn, ← hi, hp] at hlaw
  obtain ⟨ts, hts⟩ : ∃ ts, Xs.texts KX x = ts := ⟨_, rfl⟩
  have hg : ∀ t ∈ ts, t.length ≤ 600 := hts ▸ texts_short x
  rw [hts] at hlaw hn HSp
  rw [hn] at HSp
  have Hlaw := Lib.hid hlaw
  have Hp := Lib.hid hp
  have Hn := Lib.hid hn
  have Hg := Lib.hid hg
  have Hk := Lib.hid hk
  clear hlaw hp hn hts hk hg hnb his his2
  rcases hn56 with rfl | rfl
  · obtain rfl : i = 1 + k := by omega
    have HkI : Hid ((a1 : Int) % 5 = (k : Int)) := Lib.hid (by have := Hk.out; omega)
    clear hi hkm
    go_enter Tryz.func10, Tryz.ntmps10
    go_upto_region 6 with (first
      | (go_at_call 25; (with_reducible refine (HM.out _).mono ?_); clear HM; rintro e w2 ⟨rfl, hb2⟩; have B2 := Lib.hid (BX.out.trans (hb2.mono BX.out.size)); clear hb2)
      | (go_at_call 19; (with_reducible refine (HPr.out _ (HX.out.grow B2.out).tabs).mono ?_); clear HPr; rintro e w3 ⟨rfl, hb3⟩; have B3 := Lib.hid (B2.out.trans (hb3.mono B2.out.size)); clear hb3)
      | (go_at_call 31; (with_reducible refine (HC.out _).mono ?_); clear HC; rintro e w4 ⟨rfl, hb4⟩; have B4 := Lib.hid (B3.out.trans (hb4.mono B3.out.size)); clear hb4)
      | (go_at_call 30; (with_reducible refine (HSp.out _ (HX.out.grow B4.out)).mono ?_); clear HSp; rintro e w5 ⟨rfl, rfl⟩; have B5 := Lib.hid (B4.out.alloc B4.out.size (.cells (wordsC ts) 9)); have K5 := Lib.hid (Blk.new w4 9 (wordsC ts))))
    rw [HkI.out]
    clear HkI
    go_upto_region 11 with (first
      | (go_at_call 32; (with_reducible refine (field_Six _ (HX.out.grow B5.out).tabs).mono ?_); rintro e w6 ⟨g, m, d, rfl, hb6, h6, hm, hd⟩; have B6 := Lib.hid (B5.out.trans (hb6.mono B5.out.size)); have K6 := Lib.hid (K5.out.below hb6 K5.out.lt); obtain ⟨lo, hi', A2, c2, l2, week, hkx⟩ := h6.kx (1 + k) hi6
         have HPa : Hid (Calls Tryz.prog 33 #[.agg #[.int .i64 lo, .int .i64 hi', .slice A2 l2.length c2, .bool week], .string a2] w6 fun e w' => e = .returned (.tuple #[.int .u64 st, .bool sb, .int .i64 pl, .int .i64 er]) ∧ Below w6.heap.size w6 w') := Lib.hid (by have h := kx_Parse hkx a2 (by omega) (HX.out.grow B6.out).tabs; rw [Hp.out] at h; exact h)
         have k0 := hkx.c0; have k1 := hkx.c1; have k2 := hkx.c2; have k3 := hkx.c3
         clear hb6 h6 hm hd hkx)
      | (go_at_call 33; (with_reducible refine HPa.out.mono ?_); clear HPa k0 k1 k2 k3; rintro e w7 ⟨rfl, hb7⟩; have B7 := Lib.hid (B6.out.trans (hb7.mono B6.out.size)); have K7 := Lib.hid (K6.out.below hb7 K6.out.lt); clear hb7))
    go_wp2_with fail
    go_loopw [16, 90] (fun p i wr => ∃ j : Nat, j ≤ k ∧ i = .int .i64 j ∧ p = .int .i64 (k + Xs.lens (ts.take j) : Nat) ∧ wr = w7) (fun p i _ => 7 - (intOf i).toNat)
    case atStart => exact ⟨0, Nat.zero_le _, rfl, rfl, rfl⟩
    case round =>
      obtain ⟨j, hjk, rfl, rfl, rfl⟩ := hrel
      have hle : Xs.lens (ts.take j) ≤ 3600 := by
        have h := lens_short (ts.take j) 600 fun t ht => Hg.out t (List.mem_of_mem_take ht)
        have h2 : (ts.take j).length ≤ 6 := by rw [List.length_take, Hn.out]; omega
        have h3 := Nat.mul_le_mul_right 600 h2
        omega
      by_cases hj : j < k
      · obtain ⟨t, ht⟩ : ∃ t, ts[j]? = some t := ⟨_, List.getElem?_eq_getElem (by rw [Hn.out]; omega)⟩
        have hck : wr.cell? ⟨w4.heap.size, j, none⟩ = some (.string (strOf t)) := (K7.out.cell j).trans (words_cell ht)
        have htl := Hg.out t (List.mem_of_getElem? ht)
        obtain ⟨u, hu⟩ : ∃ u, strOf t = u := ⟨_, rfl⟩
        have hus : u.size = t.length := by rw [← hu]; show t.toArray.size = _; rw [List.size_toArray]
        rw [hu] at hck
        have hnx := lens_next ht
        obtain ⟨q, hq⟩ : ∃ q, k + Xs.lens (ts.take (j + 1)) = q := ⟨_, rfl⟩
        obtain ⟨p, hp⟩ : ∃ p, k + Xs.lens (ts.take j) = p := ⟨_, rfl⟩
        have hpq : (p : Int) + (u.size : Int) = (q : Int) := by omega
        have hwq : IntKind.i64.wrap (q : Int) = (q : Int) := (Go.IntWalk.i64_left _).trans (Go.IntWalk.wrap64_in _ (by omega))
        have hur : u.size ≤ 9223372036854775807 := by omega
        have Hq := Lib.hid hq
        rw [hp]
        clear hnx hq hp hu hus htl ht hle
        go_wp2_with fail
        go_roundw
        case rel => exact ⟨j + 1, by omega, by go_num, by rw [Hq.out], trivial⟩
        case measure => simp [intOf]; omega
      · obtain rfl : j = k := by omega
        obtain ⟨p, hp⟩ : ∃ p, j + Xs.lens (ts.take j) = p := ⟨_, rfl⟩
        have hlw := Hlaw.out
        rw [hp] at hlw
        rw [hp]
        have hpb : p ≤ 3606 := by omega
        obtain ⟨ts', hts'⟩ : ∃ ts', ts.set j a2.data.toList = ts' := ⟨_, rfl⟩
        rw [hts'] at hlw
        have hl' : ts'.length = 5 := by rw [← hts', List.length_set, Hn.out]
        have hs' : ∀ t ∈ ts', t.length ≤ 600 := by
          intro t ht
          rw [← hts'] at ht
          rcases List.mem_or_eq_of_mem_set ht with h | rfl
          · exact Hg.out t h
          · rw [Array.length_toList]; show a2.size ≤ 600; omega
        have hjl : (Xs.joinS ts').length ≤ 4000 := by
          have h1 := join_lens ts'
          have h2 := lens_short ts' 600 hs'
          rw [hl'] at h1 h2
          omega
        have B8 := Lib.hid (B7.out.setCell (p := ⟨w4.heap.size, j, none⟩) B4.out.size (.string a2))
        have K8 : Hid (Blk (wr.setCell ⟨w4.heap.size, j, none⟩ (.string a2)) w4.heap.size 9 (wordsC ts')) := Lib.hid (by
          have h := K7.out.set_ j (.string a2)
          rw [show (.string a2 : Value) = .string (strOf a2.data.toList) from rfl, words_set, hts'] at h
          exact h)
        obtain ⟨kc7, kf7⟩ := K7.out.facts
        have hcj : wr.cell? ⟨w4.heap.size, j, none⟩ = some (.string (strOf (ts.getD j []))) := (K7.out.cell j).trans (words_cell (by rw [List.getD_eq_getElem?_getD, List.getElem?_eq_getElem (by rw [Hn.out]; omega)]; rfl))
        have hfj : wr.frozen? ⟨w4.heap.size, j, none⟩ = false := kf7 j
        obtain ⟨U, hU⟩ : ∃ U, strOf (Xs.joinS ts') = U := ⟨_, rfl⟩
        have hUs : U.size ≤ 100000 := by rw [← hU]; show (Xs.joinS ts').toArray.size ≤ _; rw [List.size_toArray]; omega
        obtain ⟨z, hz⟩ : ∃ z, (Xs.parse KX (Xs.joinS ts')).1 = z := ⟨_, rfl⟩
        have HJ : Hid (Calls Tryz.prog 34 #[.slice (some ⟨w4.heap.size, 0, none⟩) 5 5, .string { data := #[32] }] (wr.setCell ⟨w4.heap.size, j, none⟩ (.string a2)) fun e w' => e = .returned (.string U) ∧ Below (wr.setCell ⟨w4.heap.size, j, none⟩ (.string a2)).heap.size (wr.setCell ⟨w4.heap.size, j, none⟩ (.string a2)) w') := Lib.hid (by
          have hm : (ts'.map strOf).map (·.data.toList) = ts' := by rw [List.map_map]; exact List.map_id' ts'
          have h := Tryz.strings_Join w4.heap.size 0 5 (ts'.map strOf) ⟨#[32]⟩ (wr.setCell ⟨w4.heap.size, j, none⟩ (.string a2)) (fun i v hv => by
            rw [List.getElem?_map] at hv
            obtain ⟨t, ht, rfl⟩ := Option.map_eq_some_iff.1 hv
            rw [Nat.zero_add]
            exact (K8.out.cell i).trans (words_cell ht)) K8.out.lt (by rw [List.length_map, hl']; decide) (by rw [List.length_map, hl']; exact Nat.le_refl _) (by rw [hm]; show (Lib.join ts' [32]).length ≤ _; rw [joinS_eq]; omega)
          rw [hm, List.length_map, hl'] at h
          rw [show (Lib.join ts' (⟨#[32]⟩ : ByteArray).data.toList) = Xs.joinS ts' from joinS_eq ts'] at h
          rw [← hU]
          exact h)
        have hP := fun W h => expr_Parse U hUs W h
        rw [show U.data.toList = Xs.joinS ts' by rw [← hU]; rfl] at hP
        by_cases he : er = 0
        · subst he
          have hr : Xs.parse KX (Xs.joinS ts') = (z, 0, 0) := Prod.ext hz (hlw.1 rfl)
          rw [hr] at hP
          have HP : Hid (∀ W, TabX W → Calls Tryz.prog 13 #[.string U] W fun e w' => e = .returned (.tuple #[exV z.second z.minute z.hour z.day z.month z.week z.anyDay z.anyWeek, .int .i64 0, .int .i64 0]) ∧ Below W.heap.size W w') := Lib.hid hP
          clear hP hr hlw hts' hl' hs' hjl hU hUs hz hp hle kc7 kf7 hj hjk
          go_wp2_with (first
            | (go_at_call 34; (with_reducible refine HJ.out.mono ?_); clear HJ; rintro e v1 ⟨rfl, hv⟩; have C1 := Lib.hid (B8.out.trans (hv.mono B8.out.size)); clear hv)
            | (go_at_call 13; (with_reducible refine (HP.out _ (HX.out.grow C1.out)).mono ?_); clear HP; rintro e v2 ⟨rfl, hv⟩; have C2 := Lib.hid ((C1.out.trans (hv.mono C1.out.size)).alloc (Nat.le_trans C1.out.size hv.size) (.cells (exC z.second z.minute z.hour z.day z.month z.week z.anyDay z.anyWeek) 25)); clear hv)
            | (go_at_call 12; (with_reducible refine (HW.out _ (HX.out.grow C2.out)).mono ?_); rintro e v3 ⟨rfl, hv⟩))
          go_ret
          exact ⟨rfl, C2.out.trans (hv.mono C2.out.size)⟩
        · have hr : Xs.parse KX (Xs.joinS ts') = (z, p + pl, er) := Prod.ext hz (hlw.2 he)
          rw [hr] at hP
          have hpl : pl ≤ 20 := by
            have h := Fs.parse_facts (kinds_ok.ok (1 + j) (by omega)) a2.data.toList
            rw [Hp.out] at h
            have hl : a2.data.toList.length = a2.size := Array.length_toList
            rcases h with ⟨h0, _⟩ | ⟨_, _, h | h⟩
            · exact absurd h0 he
            · have := h.2; simp only at this; omega
            · have := h.2; simp only at this; omega
          obtain ⟨q, hq⟩ : ∃ q, p + pl = q := ⟨_, rfl⟩
          rw [hq] at hP
          have hpq : (p : Int) + (pl : Int) = (q : Int) := by omega
          have hwq : IntKind.i64.wrap (q : Int) = (q : Int) := (Go.IntWalk.i64_left _).trans (Go.IntWalk.wrap64_in _ (by omega))
          have e0 : (er == 0) = false := by rw [beq_eq_false_iff_ne]; exact he
          have e1 : (er == er) = true := beq_self_eq_true _
          have e2 : ((q : Int) == (q : Int)) = true := beq_self_eq_true _
          have HP : Hid (∀ W, TabX W → Calls Tryz.prog 13 #[.string U] W fun e w' => e = .returned (.tuple #[exV z.second z.minute z.hour z.day z.month z.week z.anyDay z.anyWeek, .int .i64 q, .int .i64 er]) ∧ Below W.heap.size W w') := Lib.hid hP
          clear hP hr hlw hts' hl' hs' hjl hU hUs hz hp hle kc7 kf7 hj hjk hq he
          go_wp2_with (first
            | (go_at_call 34; (with_reducible refine HJ.out.mono ?_); clear HJ; rintro e v1 ⟨rfl, hv⟩; have C1 := Lib.hid (B8.out.trans (hv.mono B8.out.size)); clear hv)
            | (go_at_call 13; (with_reducible refine (HP.out _ (HX.out.grow C1.out)).mono ?_); clear HP; rintro e v2 ⟨rfl, hv⟩; have C2 := Lib.hid ((C1.out.trans (hv.mono C1.out.size)).alloc (Nat.le_trans C1.out.size hv.size) (.cells (exC z.second z.minute z.hour z.day z.month z.week z.anyDay z.anyWeek) 25)); clear hv)
            | (go_at_call 12; (with_reducible refine (HW.out _ (HX.out.grow C2.out)).mono ?_); rintro e v3 ⟨rfl, hv⟩))
          go_ret
          exact ⟨rfl, C2.out.trans (hv.mono C2.out.size)⟩
  · obtain rfl : k = i := by omega
    have HkI : Hid ((a1 : Int) % 6 = (k : Int)) := Lib.hid (by have := Hk.out; omega)
    clear hi hkm
    go_enter Tryz.func10, Tryz.ntmps10
    go_upto_region 6 with (first
      | (go_at_call 25; (with_reducible refine (HM.out _).mono ?_); clear HM; rintro e w2 ⟨rfl, hb2⟩; have B2 := Lib.hid (BX.out.trans (hb2.mono BX.out.size)); clear hb2)
      | (go_at_call 19; (with_reducible refine (HPr.out _ (HX.out.grow B2.out).tabs).mono ?_); clear HPr; rintro e w3 ⟨rfl, hb3⟩; have B3 := Lib.hid (B2.out.trans (hb3.mono B2.out.size)); clear hb3)
      | (go_at_call 31; (with_reducible refine (HC.out _).mono ?_); clear HC; rintro e w4 ⟨rfl, hb4⟩; have B4 := Lib.hid (B3.out.trans (hb4.mono B3.out.size)); clear hb4)
      | (go_at_call 30; (with_reducible refine (HSp.out _ (HX.out.grow B4.out)).mono ?_); clear HSp; rintro e w5 ⟨rfl, rfl⟩; have B5 := Lib.hid (B4.out.alloc B4.out.size (.cells (wordsC ts) 9)); have K5 := Lib.hid (Blk.new w4 9 (wordsC ts))))
    rw [HkI.out]
    clear HkI
    go_upto_region 11 with (first
      | (go_at_call 32; (with_reducible refine (field_Six _ (HX.out.grow B5.out).tabs).mono ?_); rintro e w6 ⟨g, m, d, rfl, hb6, h6, hm, hd⟩; have B6 := Lib.hid (B5.out.trans (hb6.mono B5.out.size)); have K6 := Lib.hid (K5.out.below hb6 K5.out.lt); obtain ⟨lo, hi', A2, c2, l2, week, hkx⟩ := h6.kx (k) hi6
         have HPa : Hid (Calls Tryz.prog 33 #[.agg #[.int .i64 lo, .int .i64 hi', .slice A2 l2.length c2, .bool week], .string a2] w6 fun e w' => e = .returned (.tuple #[.int .u64 st, .bool sb, .int .i64 pl, .int .i64 er]) ∧ Below w6.heap.size w6 w') := Lib.hid (by have h := kx_Parse hkx a2 (by omega) (HX.out.grow B6.out).tabs; rw [Hp.out] at h; exact h)
         have k0 := hkx.c0; have k1 := hkx.c1; have k2 := hkx.c2; have k3 := hkx.c3
         clear hb6 h6 hm hd hkx)
      | (go_at_call 33; (with_reducible refine HPa.out.mono ?_); clear HPa k0 k1 k2 k3; rintro e w7 ⟨rfl, hb7⟩; have B7 := Lib.hid (B6.out.trans (hb7.mono B6.out.size)); have K7 := Lib.hid (K6.out.below hb7 K6.out.lt); clear hb7))
    go_wp2_with fail
    go_loopw [16, 90] (fun p i wr => ∃ j : Nat, j ≤ k ∧ i = .int .i64 j ∧ p = .int .i64 (k + Xs.lens (ts.take j) : Nat) ∧ wr = w7) (fun p i _ => 7 - (intOf i).toNat)
    case atStart => exact ⟨0, Nat.zero_le _, rfl, rfl, rfl⟩
    case round =>
      obtain ⟨j, hjk, rfl, rfl, rfl⟩ := hrel
      have hle : Xs.lens (ts.take j) ≤ 3600 := by
        have h := lens_short (ts.take j) 600 fun t ht => Hg.out t (List.mem_of_mem_take ht)
        have h2 : (ts.take j).length ≤ 6 := by rw [List.length_take, Hn.out]; omega
        have h3 := Nat.mul_le_mul_right 600 h2
        omega
      by_cases hj : j < k
      · obtain ⟨t, ht⟩ : ∃ t, ts[j]? = some t := ⟨_, List.getElem?_eq_getElem (by rw [Hn.out]; omega)⟩
        have hck : wr.cell? ⟨w4.heap.size, j, none⟩ = some (.string (strOf t)) := (K7.out.cell j).trans (words_cell ht)
        have htl := Hg.out t (List.mem_of_getElem? ht)
        obtain ⟨u, hu⟩ : ∃ u, strOf t = u := ⟨_, rfl⟩
        have hus : u.size = t.length := by rw [← hu]; show t.toArray.size = _; rw [List.size_toArray]
        rw [hu] at hck
        have hnx := lens_next ht
        obtain ⟨q, hq⟩ : ∃ q, k + Xs.lens (ts.take (j + 1)) = q := ⟨_, rfl⟩
        obtain ⟨p, hp⟩ : ∃ p, k + Xs.lens (ts.take j) = p := ⟨_, rfl⟩
        have hpq : (p : Int) + (u.size : Int) = (q : Int) := by omega
        have hwq : IntKind.i64.wrap (q : Int) = (q : Int) := (Go.IntWalk.i64_left _).trans (Go.IntWalk.wrap64_in _ (by omega))
        have hur : u.size ≤ 9223372036854775807 := by omega
        have Hq := Lib.hid hq
        rw [hp]
        clear hnx hq hp hu hus htl ht hle
        go_wp2_with fail
        go_roundw
        case rel => exact ⟨j + 1, by omega, by go_num, by rw [Hq.out], trivial⟩
        case measure => simp [intOf]; omega
      · obtain rfl : j = k := by omega
        obtain ⟨p, hp⟩ : ∃ p, j + Xs.lens (ts.take j) = p := ⟨_, rfl⟩
        have hlw := Hlaw.out
        rw [hp] at hlw
        rw [hp]
        have hpb : p ≤ 3606 := by omega
        obtain ⟨ts', hts'⟩ : ∃ ts', ts.set j a2.data.toList = ts' := ⟨_, rfl⟩
        rw [hts'] at hlw
        have hl' : ts'.length = 6 := by rw [← hts', List.length_set, Hn.out]
        have hs' : ∀ t ∈ ts', t.length ≤ 600 := by
          intro t ht
          rw [← hts'] at ht
          rcases List.mem_or_eq_of_mem_set ht with h | rfl
          · exact Hg.out t h
          · rw [Array.length_toList]; show a2.size ≤ 600; omega
        have hjl : (Xs.joinS ts').length ≤ 4000 := by
          have h1 := join_lens ts'
          have h2 := lens_short ts' 600 hs'
          rw [hl'] at h1 h2
          omega
        have B8 := Lib.hid (B7.out.setCell (p := ⟨w4.heap.size, j, none⟩) B4.out.size (.string a2))
        have K8 : Hid (Blk (wr.setCell ⟨w4.heap.size, j, none⟩ (.string a2)) w4.heap.size 9 (wordsC ts')) := Lib.hid (by
          have h := K7.out.set_ j (.string a2)
          rw [show (.string a2 : Value) = .string (strOf a2.data.toList) from rfl, words_set, hts'] at h
          exact h)
        obtain ⟨kc7, kf7⟩ := K7.out.facts
        have hcj : wr.cell? ⟨w4.heap.size, j, none⟩ = some (.string (strOf (ts.getD j []))) := (K7.out.cell j).trans (words_cell (by rw [List.getD_eq_getElem?_getD, List.getElem?_eq_getElem (by rw [Hn.out]; omega)]; rfl))
        have hfj : wr.frozen? ⟨w4.heap.size, j, none⟩ = false := kf7 j
        obtain ⟨U, hU⟩ : ∃ U, strOf (Xs.joinS ts') = U := ⟨_, rfl⟩
        have hUs : U.size ≤ 100000 := by rw [← hU]; show (Xs.joinS ts').toArray.size ≤ _; rw [List.size_toArray]; omega
        obtain ⟨z, hz⟩ : ∃ z, (Xs.parse KX (Xs.joinS ts')).1 = z := ⟨_, rfl⟩
        have HJ : Hid (Calls Tryz.prog 34 #[.slice (some ⟨w4.heap.size, 0, none⟩) 6 6, .string { data := #[32] }] (wr.setCell ⟨w4.heap.size, j, none⟩ (.string a2)) fun e w' => e = .returned (.string U) ∧ Below (wr.setCell ⟨w4.heap.size, j, none⟩ (.string a2)).heap.size (wr.setCell ⟨w4.heap.size, j, none⟩ (.string a2)) w') := Lib.hid (by
          have hm : (ts'.map strOf).map (·.data.toList) = ts' := by rw [List.map_map]; exact List.map_id' ts'
          have h := Tryz.strings_Join w4.heap.size 0 6 (ts'.map strOf) ⟨#[32]⟩ (wr.setCell ⟨w4.heap.size, j, none⟩ (.string a2)) (fun i v hv => by
            rw [List.getElem?_map] at hv
            obtain ⟨t, ht, rfl⟩ := Option.map_eq_some_iff.1 hv
            rw [Nat.zero_add]
            exact (K8.out.cell i).trans (words_cell ht)) K8.out.lt (by rw [List.length_map, hl']; decide) (by rw [List.length_map, hl']; exact Nat.le_refl _) (by rw [hm]; show (Lib.join ts' [32]).length ≤ _; rw [joinS_eq]; omega)
          rw [hm, List.length_map, hl'] at h
          rw [show (Lib.join ts' (⟨#[32]⟩ : ByteArray).data.toList) = Xs.joinS ts' from joinS_eq ts'] at h
          rw [← hU]
          exact h)
        have hP := fun W h => expr_Parse U hUs W h
        rw [show U.data.toList = Xs.joinS ts' by rw [← hU]; rfl] at hP
        by_cases he : er = 0
        · subst he
          have hr : Xs.parse KX (Xs.joinS ts') = (z, 0, 0) := Prod.ext hz (hlw.1 rfl)
          rw [hr] at hP
          have HP : Hid (∀ W, TabX W → Calls Tryz.prog 13 #[.string U] W fun e w' => e = .returned (.tuple #[exV z.second z.minute z.hour z.day z.month z.week z.anyDay z.anyWeek, .int .i64 0, .int .i64 0]) ∧ Below W.heap.size W w') := Lib.hid hP
          clear hP hr hlw hts' hl' hs' hjl hU hUs hz hp hle kc7 kf7 hj hjk
          go_wp2_with (first
            | (go_at_call 34; (with_reducible refine HJ.out.mono ?_); clear HJ; rintro e v1 ⟨rfl, hv⟩; have C1 := Lib.hid (B8.out.trans (hv.mono B8.out.size)); clear hv)
            | (go_at_call 13; (with_reducible refine (HP.out _ (HX.out.grow C1.out)).mono ?_); clear HP; rintro e v2 ⟨rfl, hv⟩; have C2 := Lib.hid ((C1.out.trans (hv.mono C1.out.size)).alloc (Nat.le_trans C1.out.size hv.size) (.cells (exC z.second z.minute z.hour z.day z.month z.week z.anyDay z.anyWeek) 25)); clear hv)
            | (go_at_call 12; (with_reducible refine (HW.out _ (HX.out.grow C2.out)).mono ?_); rintro e v3 ⟨rfl, hv⟩))
          go_ret
          exact ⟨rfl, C2.out.trans (hv.mono C2.out.size)⟩
        · have hr : Xs.parse KX (Xs.joinS ts') = (z, p + pl, er) := Prod.ext hz (hlw.2 he)
          rw [hr] at hP
          have hpl : pl ≤ 20 := by
            have h := Fs.parse_facts (kinds_ok.ok (j) (by omega)) a2.data.toList
            rw [Hp.out] at h
            have hl : a2.data.toList.length = a2.size := Array.length_toList
            rcases h with ⟨h0, _⟩ | ⟨_, _, h | h⟩
            · exact absurd h0 he
            · have := h.2; simp only at this; omega
            · have := h.2; simp only at this; omega
          obtain ⟨q, hq⟩ : ∃ q, p + pl = q := ⟨_, rfl⟩
          rw [hq] at hP
          have hpq : (p : Int) + (pl : Int) = (q : Int) := by omega
          have hwq : IntKind.i64.wrap (q : Int) = (q : Int) := (Go.IntWalk.i64_left _).trans (Go.IntWalk.wrap64_in _ (by omega))
          have e0 : (er == 0) = false := by rw [beq_eq_false_iff_ne]; exact he
          have e1 : (er == er) = true := beq_self_eq_true _
          have e2 : ((q : Int) == (q : Int)) = true := beq_self_eq_true _
          have HP : Hid (∀ W, TabX W → Calls Tryz.prog 13 #[.string U] W fun e w' => e = .returned (.tuple #[exV z.second z.minute z.hour z.day z.month z.week z.anyDay z.anyWeek, .int .i64 q, .int .i64 er]) ∧ Below W.heap.size W w') := Lib.hid hP
          clear hP hr hlw hts' hl' hs' hjl hU hUs hz hp hle kc7 kf7 hj hjk hq he
          go_wp2_with (first
            | (go_at_call 34; (with_reducible refine HJ.out.mono ?_); clear HJ; rintro e v1 ⟨rfl, hv⟩; have C1 := Lib.hid (B8.out.trans (hv.mono B8.out.size)); clear hv)
            | (go_at_call 13; (with_reducible refine (HP.out _ (HX.out.grow C1.out)).mono ?_); clear HP; rintro e v2 ⟨rfl, hv⟩; have C2 := Lib.hid ((C1.out.trans (hv.mono C1.out.size)).alloc (Nat.le_trans C1.out.size hv.size) (.cells (exC z.second z.minute z.hour z.day z.month z.week z.anyDay z.anyWeek) 25)); clear hv)
            | (go_at_call 12; (with_reducible refine (HW.out _ (HX.out.grow C2.out)).mono ?_); rintro e v3 ⟨rfl, hv⟩))
          go_ret
          exact ⟨rfl, C2.out.trans (hv.mono C2.out.size)⟩

theorem walk (l : Nat → Nat) (kk : Nat) (a1 : Int) (a2 : ByteArray) (hl : ∀ i, i < 6 → l i < 18446744073709551616) (hk : kk < 256) (w1 : (Lit.int .u8 a1).wf = true) (w2 : a2.size ≤ maxLen) (w : World) (hX : TabX w) :
    Calls Tryz.prog 10 #[setsV l kk, .int .u8 a1, .string a2] w fun e w' => e = .returned (.bool true) ∧ Below w.heap.size w w' := by
  have b : 0 ≤ a1 ∧ a1 ≤ 255 := by simpa [Lit.wf, IntKind.min, IntKind.max, IntKind.signed, IntKind.bits] using w1
  obtain ⟨n, rfl⟩ := Int.eq_ofNat_of_zero_le b.1
  exact walkN l kk n a2 hl hk (by omega) w2 w hX

set_option maxRecDepth 100000 in
theorem contract (H : Type) (enc : TypeId × Value → H) (W : World) (base : Nat) (args : Array Value) (ds gs : List (DataW H)) (before : List MemPlace)
    (hval : ∀ (j : Nat) t v, Tryz.f10.params[j]? = some t → args[j]? = some v → Value.okWide Tryz.prog W .any base t v)
    (hW : DataW.Whole enc Tryz.prog Tryz.f10.params.toList Rows.exprPlacesSpec.vars false W args.toList ds gs before) (hL : laidMetH Tryz.prog Rows.exprPlacesRow.laid W) (hS : W.ShapedOpen Tryz.prog) :
    Calls Tryz.prog 10 args W fun e W' => ∃ v, e = .returned v ∧ Rows.exprPlacesSpec.post enc Tryz.prog Tryz.f10 false true false false W args v W' := by
  have hT : TabX W := XRow.tabs_of hL hS
  have hW' := hW
  obtain ⟨p, q, hA0, hV, rfl, hfz, hnd⟩ := hW
  have hA : DataW.TrodAll enc Tryz.prog W 0 (fun _ => true) true Tryz.f10.params.toList args.toList ds p := hA0
  rw [Tryz.params10] at hA hval
  obtain ⟨v0, vs0, d0, ds0, p0, q0, hargs, rfl, rfl, h0, r0⟩ := trodAll_cons hA
  obtain ⟨v1, vs1, d1, ds1, p1, q1, rfl, rfl, rfl, h1, r1⟩ := trodAll_cons r0
  obtain ⟨v2, vs2, d2, ds2, p2, q2, rfl, rfl, rfl, h2, r2⟩ := trodAll_cons r1
  obtain ⟨rfl, rfl, rfl⟩ := trodAll_nil r2
  obtain rfl : args = #[v0, v1, v2] := by cases args; simp_all
  obtain ⟨rfl, rfl⟩ := trodVars_none hV
  have h0k := h0
  obtain ⟨l0, k0, rfl, hl0, hk0⟩ := XRow.open_sets (hval 0 42 v0 rfl rfl) h0
  obtain ⟨a1, rfl, rfl, rfl, w1⟩ := open_int Tryz.underlying5 (hval 1 5 v1 rfl rfl) h1
  obtain ⟨a2, rfl, rfl, rfl, w2⟩ := Go.ChangeMaps.open_string Tryz.underlying9 (hval 2 9 v2 rfl rfl) h2
  clear hA0
  simp only [List.append_nil] at hW'
  refine (walk l0 k0 a1 a2 hl0 hk0 w1 w2 W hT ).mono fun e W' ⟨he, hb⟩ => ?_
  subst he
  exact ⟨_, rfl, _, _, _, [], _, [], hW', trodAll_cons_mk (shut_bool Tryz.underlying4 _) trodAll_mk0, (trodAll_cons_mk (Below.trod (by kernel_rfl) (by kernel_rfl) (of_decide_eq_true (by kernel_rfl)) h0k hb (fun x hx => hW'.lt x (by first | (simpa using hx; done) | (simp [hx]; done)))) (trodAll_cons_mk (shut_int Tryz.underlying5 w1) (trodAll_cons_mk (Go.ChangeMaps.shut_string Tryz.underlying9 w2) trodAll_mk0))), rfl, hb.frame _, fun h => by cases h⟩

set_option maxRecDepth 100000 in
theorem lifted (os : Os) (started : os.Started) (H : Type) (enc : TypeId × Value → H) (F : Stop.Interp) :
    ReturnsInHanded {} Tryz.checked os 10 .any ((OpenSpec.ofChange Rows.exprPlacesSpec).preRow enc Tryz.prog Tryz.f10 Rows.exprPlacesRow.domain false Rows.exprPlacesRow.laid) (((OpenSpec.ofChange Rows.exprPlacesSpec).at F).post enc Tryz.prog Tryz.f10 false true false false) := by
  refine returnsInHanded_of_row (C := Tryz.checked) (s := OpenSpec.ofChange Rows.exprPlacesSpec) XRow.own started (by kernel_rfl) Tryz.func10
    (ChangeSpec.witness_shaped (enc := enc) (C := Tryz.checked) (os := os) (X := fun w _ => laidMetH Tryz.prog XRow.laidL w) false (World.laidAll Tryz.prog os XRow.laidL) #[.agg #[.int .u64 0, .int .u64 0, .int .u64 0, .int .u64 0, .int .u64 0, .int .u64 0, .int .u8 0], .int .u8 0, .string ByteArray.empty] 8 (World.laidAll_os _ _ _)
      (XRow.wit_shaped os _) (by kernel_rfl) (by kernel_rfl) (by kernel_rfl) (XRow.wit_laid os _)) ?_
  intro W base args ds gs before hval hW _ _ _ hL hS _
  exact contract H enc W base args ds gs before hval hW hL hS

theorem said : Rows.ExprPlacesSaid :=
  OpenClaim.holds_of_cond 10 Tryz.f10 rfl rfl rfl rfl rfl rfl rfl ⟨rfl, rfl, rfl, rfl, rfl⟩ rfl rfl rfl rfl rfl (by kernel_rfl) Tryz.func10 (by kernel_rfl)
    (of_decide_eq_true (by kernel_rfl)) (by unfold Func.isWrapper; first | (rw [if_pos (by decide +kernel)]; kernel_rfl) | (rw [if_neg (by decide +kernel)]; exact ⟨rfl, rfl⟩))
    (fun os started H enc _ F => by rw [OpenClaim.pre_eq_preRow]; exact lifted os started H enc F)

theorem plain (f : FuncId) (fn : Func) (hf : Tryz.pinned.checked.prog.funcNamed "wakeman/wakemanlaw07.ExprPlaces" = some f) (hfn : Tryz.pinned.checked.prog.funcs[f]? = some fn) :
    true = Tryz.pinned.checked.prog.looks [] ∧ ∀ (j : Nat) t, fn.params[j]? = some t → Tryz.pinned.checked.prog.wantsStandIn t = false := by
  obtain rfl : f = 10 := Option.some.inj ((show Tryz.prog.funcNamed "wakeman/wakemanlaw07.ExprPlaces" = some 10 by kernel_rfl).symm.trans hf) |>.symm
  obtain rfl : fn = Tryz.f10 := (Option.some.inj (Tryz.func10.symm.trans hfn)).symm
  refine ⟨by kernel_rfl, fun j t ht => ?_⟩
  rw [Tryz.params10] at ht
  have hm : t ∈ ([42, 5, 9] : List TypeId) := by simpa using Array.mem_of_getElem? ht
  have hall : (([42, 5, 9] : List TypeId).all fun u => !Tryz.prog.wantsStandIn u) = true := by kernel_rfl
  exact (show Tryz.prog.wantsStandIn t = false by simpa using List.all_eq_true.1 hall t hm)

theorem card : Rows.ExprPlacesCardSaid :=
  Claim7.holds_tied_plain_at .later [] _ _ _ _ said (fun _ h => by cases h) (by kernel_rfl) (fun _ h => by cases h) exprPlaces_row_tie rfl ⟨rfl, rfl⟩ (by kernel_rfl) rfl plain (by kernel_rfl)
#print axioms card
end Go.Proofs.YtjnlgaeedcklaaaGreatDoor.exprPlaces
