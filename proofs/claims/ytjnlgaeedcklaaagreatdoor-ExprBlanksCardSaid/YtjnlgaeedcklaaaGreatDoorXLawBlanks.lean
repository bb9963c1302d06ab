/-
  ExprBlanks: the walk, the row, the card.
-/
import Derived.Test.YtjnlgaeedcklaaaGreatDoorXRow
import Derived.Test.YtjnlgaeedcklaaaGreatDoorXBuild
import Derived.Test.YtjnlgaeedcklaaaGreatDoorXBlankP
import Derived.Test.YtjnlgaeedcklaaaGreatDoorXMade
import Derived.Test.YtjnlgaeedcklaaaGreatDoorXWorks
set_option linter.unusedVariables false
set_option linter.unusedSimpArgs false
namespace Go.Proofs.YtjnlgaeedcklaaaGreatDoor.exprBlanks
open Go.ChangeShapes Go.WideShapes Go.ChangeAt Go.RowKit

set_option maxRecDepth 100000 in
theorem index_two (q : Nat) (W : World) (h : q < 2) : (Instr.index 76 (.agg #[.int .u8 32, .int .u8 9]) (.int .i64 ((q : Nat) : Int))).run Tryz.prog W = .ok (.int .u8 ((if q = 0 then (32 : UInt8) else 9).toNat : Nat)) W := by
  rcases q with _ | _ | q
  · rfl
  · rfl
  · omega
/-- What the loops keep. -/
structure BlkS (w : World) (b g : Nat) (l : List UInt8) (ts : List (List UInt8)) (cs : Array Value) (V : World) : Prop where
  ib : IsB b l V
  wd : Blk V g 9 (wordsC ts)
  bx : Blk V w.heap.size 42 cs
  bl : Below w.heap.size w V
  sz : b ≤ V.heap.size
  gb : b < g
  wb : w.heap.size < b
theorem ib_below {b : Nat} {l : List UInt8} {V V' : World} (h : IsB b l V) (hb : Below V.heap.size V V') : IsB b l V' := by
  have one : ∀ p, Lib.BuilderAtF 72 5 b b p (Lib.byteCells l) V → Lib.BuilderAtF 72 5 b b p (Lib.byteCells l) V' := by
    rintro p ⟨hB, v, hv, hown, hne⟩
    have hlt : b < V.heap.size := (Array.getElem?_eq_some_iff.1 hv).1
    refine ⟨hB, v, (hb.block b hlt).trans hv, ⟨hown.1, ?_⟩, hne⟩
    rcases hown.2 with hn | ⟨g, cap, cur, fz, e1, e2, hg, rest⟩
    · exact .inl hn
    · exact .inr ⟨g, cap, cur, fz, e1, e2, (hb.block g (Array.getElem?_eq_some_iff.1 hg).1).trans hg, rest⟩
  exact h.elim (fun x => .inl (one _ x)) (fun x => .inr (one _ x))
theorem BlkS.grow {w : World} {b g : Nat} {l : List UInt8} {ts : List (List UInt8)} {cs : Array Value} {V V' : World} (h : BlkS w b g l ts cs V) (hb : Below V.heap.size V V') : BlkS w b g l ts cs V' :=
  ⟨ib_below h.ib hb, h.wd.below hb h.wd.lt, h.bx.below hb h.bx.lt, h.bl.trans (hb.mono h.bl.size), Nat.le_trans h.sz hb.size, h.gb, h.wb⟩
theorem BlkS.kept {w : World} {b g : Nat} {l l' : List UInt8} {ts : List (List UInt8)} {cs : Array Value} {V V' : World} (h : BlkS w b g l ts cs V) (h1 : IsB b l' V') (h2 : Below b V V') (h3 : Lib.OthersKept 5 (some b) V V') : BlkS w b g l' ts cs V' :=
  ⟨h1, h3 g _ h.wd (fun e => by have := h.gb; injection e with e; omega) (fun c fz e => by cases e), h.bx.below h2 h.wb, h.bl.trans (h2.mono (Nat.le_of_lt h.wb)), Nat.le_trans h.sz h2.size, h.gb, h.wb⟩

set_option maxRecDepth 100000 in
set_option maxHeartbeats 16000000 in
theorem walk (l : Nat → Nat) (kk : Nat) (A : Option Addr) (n c : Nat) (hl : ∀ i, i < 6 → l i < 18446744073709551616) (hk : kk < 256) (hn : n ≤ c) (hc : c ≤ maxLen) (hA : A = none → c = 0) (w : World) (hX : TabX w)
    (hs : n = 0 ∨ ∃ b off, A = some ⟨b, off, none⟩ ∧ b < w.heap.size ∧ ∃ t : Nat → Nat, ∀ j, j < n → t j < 256 ∧ w.cell? ⟨b, off + j, none⟩ = some (.int .u8 (t j))) :
    Calls Tryz.prog 11 #[setsV l kk, .slice A n c] w fun e w' => e = .returned (.bool true) ∧ Below w.heap.size w w' := by
  have HX := Lib.hid hX; clear hX
  have HW := Lib.hid law_works
  have hcm : c ≤ 9223372036854775807 := hc
  obtain ⟨t, hti⟩ : ∃ t : Nat → Nat, ∀ j, j < n → t j < 256 ∧ ∃ b off, A = some ⟨b, off, none⟩ ∧ b < w.heap.size ∧ w.cell? ⟨b, off + j, none⟩ = some (.int .u8 (t j)) := by
    rcases hs with h0 | ⟨b, off, hA, hb, t, ht⟩
    · exact ⟨fun _ => 0, fun j hj => by omega⟩
    · exact ⟨t, fun j hj => ⟨(ht j hj).1, b, off, hA, hb, (ht j hj).2⟩⟩
  have Ht := Lib.hid hti
  obtain ⟨x, hx⟩ : ∃ x, madeX l (decide (kk % 2 = 1)) (decide (kk / 2 % 2 = 1)) = x := ⟨_, rfl⟩
  have hc : Xs.checkB KX x = true := hx ▸ made_check _ _ _
  have HM : Hid (∀ W, Calls Tryz.prog 25 #[setsV l kk] W fun e w' => e = .returned (exV x.second x.minute x.hour x.day x.month x.week x.anyDay x.anyWeek) ∧ Below W.heap.size W w') := Lib.hid fun W => by
    have := law_Made l kk hl hk W
    rw [hx] at this
    exact this
  obtain ⟨T, hT⟩ : ∃ T, strOf (Xs.joinS (Xs.texts KX x)) = T := ⟨_, rfl⟩
  have hTs : T.size ≤ 100000 := by
    have hTl : T.data.toList = Xs.joinS (Xs.texts KX x) := by rw [← hT]; rfl
    have h := texts_join_len x
    rw [← hTl, Array.length_toList] at h
    exact Nat.le_trans h (by decide)
  have hPr := fun W h => expr_Print x W (small_of_check hc) h
  rw [printX_ok hc] at hPr
  have HPr : Hid (∀ W, Tabs W → Calls Tryz.prog 19 #[exV x.second x.minute x.hour x.day x.month x.week x.anyDay x.anyWeek] W fun e w' => e = .returned (.tuple #[.string T, .int .i64 0]) ∧ Below W.heap.size W w') := Lib.hid (by rw [← hT]; exact hPr)
  have HSp := Lib.hid fun W h => split_words hc W h T hT hTs
  obtain ⟨cnt, hcnt⟩ : ∃ cnt : Nat → Nat, cnt = fun i => (if i < n then 1 + t i % 4 else 1) - (if i = 0 then 1 else 0) := ⟨_, rfl⟩
  have hcn : ∀ i, cnt i = (if i < n then 1 + t i % 4 else 1) - (if i = 0 then 1 else 0) := fun i => by rw [hcnt]
  have hc4 : ∀ i, cnt i ≤ 4 := fun i => by rw [hcn]; split <;> split <;> omega
  have hc1 : ∀ i, 1 ≤ i → 1 ≤ cnt i := fun i hi => by rw [hcn]; split <;> split <;> omega
  obtain ⟨ts, hts⟩ : ∃ ts, Xs.texts KX x = ts := ⟨_, rfl⟩
  have hg : ∀ t ∈ ts, t.length ≤ 600 := hts ▸ texts_short x
  obtain ⟨N, hN⟩ : ∃ N, ts.length = N := ⟨_, rfl⟩
  have hN6 : N ≤ 6 := by rw [← hN, ← hts, Xs.texts_len]; split <;> omega
  have hN5 : 1 ≤ N := by rw [← hN, ← hts, Xs.texts_len]; split <;> omega
  obtain ⟨r, hr⟩ : ∃ r, n % 3 = r := ⟨_, rfl⟩
  have hr3 : r < 3 := by rw [← hr]; exact Nat.mod_lt _ (by decide)
  have HrI : Hid ((n : Int) % 3 = (r : Int)) := Lib.hid (by omega)
  have hlaw := Xs.blank_law kinds_ok hc (Xs.pairsB cnt 0 ts) (Lib.repeatL [32] r) (by rw [Xs.pairs_snd, hts]) (Xs.pairs_blank cnt ts 0)
    (by
      intro p hp
      rcases ts with _ | ⟨t0, ts⟩
      · cases hp
      · exact Xs.pairs_ne cnt ts 1 (fun j hj => hc1 j hj) p hp) (Xs.repeat_blanks r).1
  rw [← Xs.built_all, hN] at hlaw
  rw [hts] at HSp
  rw [hN] at HSp
  have hbl := Xs.built_len cnt ts hc4 hg
  rw [hN] at hbl
  have Hlaw := Lib.hid hlaw
  have Hgl := Lib.hid hg
  have HN := Lib.hid hN
  have Hbl := Lib.hid hbl
  have Hc4 := Lib.hid hc4
  have Hcn := Lib.hid hcn
  have BX : Hid (Below w.heap.size w (w.alloc (.cells (setsC l kk) 42))) := Lib.hid ((Below.refl _ _).alloc (Nat.le_refl _) _)
  have JX : Hid (Blk (w.alloc (.cells (setsC l kk) 42)) w.heap.size 42 (setsC l kk)) := Lib.hid (Blk.new w _ _)
  have hmu := yielded_undef
  clear hPr hx hl hk hT hTs hc hs hti hcnt hcn hc4 hc1 hts hg hN hr hlaw hbl
  go_enter Tryz.func11, Tryz.ntmps11
  go_wp2_with (first
    | (go_at_call 25; (with_reducible refine (HM.out _).mono ?_); rintro e w2 ⟨rfl, hb2⟩; have B2 := Lib.hid (BX.out.trans (hb2.mono BX.out.size)); have J2 := Lib.hid (JX.out.below hb2 JX.out.lt); clear hb2)
    | (go_at_call 19; (with_reducible refine (HPr.out _ (HX.out.grow B2.out).tabs).mono ?_); clear HPr; rintro e w3 ⟨rfl, hb3⟩; have B3 := Lib.hid (B2.out.trans (hb3.mono B2.out.size)); have J3 := Lib.hid (J2.out.below hb3 J2.out.lt); clear hb3)
    | (go_at_call 30; (with_reducible refine (HSp.out _ ((HX.out.grow B3.out).alloc _)).mono ?_); clear HSp; rintro e w5 ⟨rfl, rfl⟩))
  obtain ⟨b, hb⟩ : ∃ b, b = w3.heap.size := ⟨_, rfl⟩
  obtain ⟨g, hg⟩ : ∃ g, g = w3.heap.size + 1 := ⟨_, rfl⟩
  obtain ⟨W5, hW5⟩ : ∃ W5, (w3.alloc (.cells #[.pointer none, .slice none 0 0] 72)).alloc (.cells (wordsC ts) 9) = W5 := ⟨_, rfl⟩
  have S5 : Hid (BlkS w b g (Xs.built cnt ts 0) ts (setsC l kk) W5) := Lib.hid (by
    rw [← hW5, hb, hg]
    have hj := J3.out.lt
    exact ⟨(Lib.IsBuilderF.of (Lib.fresh_isBuilder 72 5 w3)).alloc _, blk_at (by simp), (J3.out.alloc _).alloc _, (B3.out.alloc B3.out.size _).alloc (Nat.le_trans B3.out.size (by simp)) _, by simp; omega, by omega, hj⟩)
  rw [hW5, ← hg, ← hb]
  clear hb hg hW5 B2 B3 J2 J3 BX JX
  go_loopw [29] (fun i wr => ∃ k : Nat, k ≤ N ∧ i = .int .i64 k ∧ BlkS w b g (Xs.built cnt ts k) ts (setsC l kk) wr) (fun i _ => 7 - (intOf i).toNat)
  case atStart => exact ⟨0, Nat.zero_le _, rfl, S5.out⟩
  case round =>
    obtain ⟨k, hkN, rfl, hrest⟩ := hrel
    have HR := Lib.hid hrest
    clear hrest S5
    by_cases hk : k < N
    · obtain ⟨u, hu⟩ : ∃ u, ts[k]? = some u := ⟨_, List.getElem?_eq_getElem (by rw [HN.out]; exact hk)⟩
      have hck : wr.cell? ⟨g, k, none⟩ = some (.string (strOf u)) := (HR.out.wd.cell k).trans (words_cell hu)
      obtain ⟨U, hU⟩ : ∃ U, strOf u = U := ⟨_, rfl⟩
      rw [hU] at hck
      obtain ⟨c1, hc1⟩ : ∃ c1, (if k < n then 1 + t k % 4 else 1) = c1 := ⟨_, rfl⟩
      have hm := Hcn.out k
      rw [hc1] at hm
      obtain ⟨m, hmm⟩ : ∃ m, cnt k = m := ⟨_, rfl⟩
      rw [hmm] at hm
      have hm4 : m ≤ 4 := hmm ▸ Hc4.out k
      have Hu := Lib.hid hu
      have HU := Lib.hid hU
      have Hmm := Lib.hid hmm
      have Hc1 := Lib.hid hc1
      have Hm := Lib.hid hm
      clear hu hU hmm hc1 hm
      go_upto_if 37 with fail
      go_cut [10] (fun s10 wx => s10 = .int .i64 (c1 : Nat) ∧ wx = wr)
      case first =>
        by_cases hin : k < n
        · obtain ⟨ht1, bk, off, rfl, hbk, hcell⟩ := Ht.out k hin
          have d1 : decide ((k : Int) < (n : Int)) = true := decide_eq_true (by omega)
          have d1' : decide (k < n) = true := decide_eq_true hin
          have hcw : wr.cell? ⟨bk, off + k, none⟩ = some (.int .u8 (t k)) := (HR.out.bl.cell (p := ⟨bk, off + k, none⟩) hbk).trans hcell
          have hc1 := Hc1.out
          rw [if_pos hin] at hc1
          obtain ⟨tk, htk⟩ : ∃ tk, t k = tk := ⟨_, rfl⟩
          rw [htk] at hcw hc1 ht1
          have hce : 1 + (tk : Int) % 4 = (c1 : Int) := by omega
          clear hcell hc1 htk
          go_wp2_with fail
          go_meet
          exact ⟨by first | rfl | rw [hce], rfl⟩
        · have d1 : decide ((k : Int) < (n : Int)) = false := decide_eq_false (by omega)
          have d1' : decide (k < n) = false := decide_eq_false hin
          have hc1 := Hc1.out
          rw [if_neg hin] at hc1
          subst hc1
          go_wp2_with fail
          go_meet
          exact ⟨rfl, rfl⟩
      case rest =>
        obtain ⟨rfl, rfl⟩ := hcut
        go_upto_if 46 with fail
        go_cut [10] (fun s10 wx => s10 = .int .i64 (m : Nat) ∧ wx = wc)
        case first =>
          by_cases h0 : k = 0
          · subst h0
            have hm := Hm.out
            rw [if_pos rfl] at hm
            have hme : (c1 : Int) - 1 = (m : Int) := by
              have h := Hc1.out
              split at h <;> omega
            go_wp2_with fail
            go_meet
            exact ⟨by first | rfl | rw [hm] | rw [hme], rfl⟩
          · have d0 : ((k : Int) == 0) = false := by rw [beq_eq_false_iff_ne]; omega
            have hm := Hm.out
            rw [if_neg h0, Nat.sub_zero] at hm
            subst hm
            go_wp2_with fail
            go_meet
            exact ⟨rfl, rfl⟩
        case rest =>
          obtain ⟨rfl, hwc⟩ := hcut
          subst hwc
          go_wp2_with fail
          go_loopw [50] (fun q wr => ∃ j : Nat, j ≤ m ∧ q = .int .i64 j ∧ BlkS w b g (Xs.built cnt ts k ++ Xs.alt k j) ts (setsC l kk) wr) (fun q _ => 5 - (intOf q).toNat)
          case atStart => exact ⟨0, Nat.zero_le _, rfl, by rw [show Xs.alt k 0 = [] from rfl, List.append_nil]; exact HR.out⟩
          case round =>
            obtain ⟨j, hjm, rfl, hrest⟩ := hrel
            have HQ := Lib.hid hrest
            clear hrest hck
            have hl1 : (Xs.built cnt ts k ++ Xs.alt k j).length ≤ 4000 := by
              have h := Hbl.out k (by omega)
              rw [List.length_append, Xs.alt_len]
              omega
            have Hl1 := Lib.hid hl1
            clear hl1
            by_cases hj : j < m
            · have hd : decide (j < m) = true := decide_eq_true hj
              obtain ⟨s, hs⟩ : ∃ s, k + j = s := ⟨_, rfl⟩
              obtain ⟨q, hq⟩ : ∃ q, s % 2 = q := ⟨_, rfl⟩
              have hq2 : q < 2 := by rw [← hq]; exact Nat.mod_lt _ (by decide)
              have hks : (k : Int) + (j : Int) = (s : Int) := by omega
              have hws : IntKind.i64.wrap (s : Int) = (s : Int) := (Go.IntWalk.i64_left _).trans (Go.IntWalk.wrap64_in _ (by omega))
              have hsq : (s : Int) % 2 = (q : Int) := by omega
              have hix := fun W => index_two q W hq2
              obtain ⟨c8, hc8⟩ : ∃ c8, (if q = 0 then (32 : UInt8) else 9) = c8 := ⟨_, rfl⟩
              rw [hc8] at hix
              have Hnx : Hid ((Xs.built cnt ts k ++ Xs.alt k j) ++ [c8] = Xs.built cnt ts k ++ Xs.alt k (j + 1)) := Lib.hid (by
                rw [Xs.alt_succ, List.append_assoc, hs]
                unfold Xs.altC
                rw [hq, hc8])
              have HWB := Lib.hid (write_byte b (Xs.built cnt ts k ++ Xs.alt k j) c8 wr HQ.out.ib (by have := Hl1.out; omega) HQ.out.sz)
              clear hs hq hc8 hq2
              go_wp2_with (go_at_call 35; (with_reducible refine HWB.out.mono ?_); clear HWB; rintro e v1 ⟨rfl, h1, h2, h3⟩; have Q1 := Lib.hid (HQ.out.kept h1 h2 h3); clear h1 h2 h3)
              rw [Hnx.out] at Q1
              first
                | exact ⟨⟨j + 1, by omega, by go_num, Q1.out⟩, by simp [intOf]; omega⟩
                | (refine ⟨?_, ?_⟩
                   · repeat apply Exists.intro
                     exact ⟨⟨j + 1, by omega, by go_num, Q1.out⟩, rfl⟩
                   · simp [intOf]; omega)
            · obtain rfl : j = m := by omega
              have HWS := Lib.hid (write_string b (Xs.built cnt ts k ++ Xs.alt k j) U wr HQ.out.ib (by
                have h := Hl1.out
                have hu := Hgl.out u (List.mem_of_getElem? Hu.out)
                have hU : U.size = u.length := by rw [← HU.out]; show u.toArray.size = _; rw [List.size_toArray]
                omega) HQ.out.sz)
              have Hnx : Hid ((Xs.built cnt ts k ++ Xs.alt k j) ++ U.data.toList = Xs.built cnt ts (k + 1)) := Lib.hid (by
                rw [Xs.built_succ cnt Hu.out, Hmm.out, ← HU.out]; rfl)
              clear hj hjm
              go_wp2_with (go_at_call 36; (with_reducible refine HWS.out.mono ?_); clear HWS; rintro e v1 ⟨rfl, h1, h2, h3⟩; have Q1 := Lib.hid (HQ.out.kept h1 h2 h3); clear h1 h2 h3)
              rw [Hnx.out] at Q1
              first
                | exact ⟨⟨k + 1, by omega, by go_num, Q1.out⟩, by simp [intOf]; omega⟩
                | (refine ⟨?_, ?_⟩
                   · repeat apply Exists.intro
                     exact ⟨⟨k + 1, by omega, by go_num, Q1.out⟩, rfl⟩
                   · simp [intOf]; omega)
    · obtain rfl : k = N := by omega
      clear hk hkN
      obtain ⟨R, hR⟩ : ∃ R, Lib.repeatL [32] r = R := ⟨_, rfl⟩
      obtain ⟨D, hD⟩ : ∃ D, Xs.built cnt ts k = D := ⟨_, rfl⟩
      have hRl : R.length = r := hR ▸ (Xs.repeat_blanks r).2
      have hDl : D.length ≤ 3624 := by rw [← hD]; have := Hbl.out k (Nat.le_refl _); omega
      have hlw := Hlaw.out
      rw [hR, hD] at hlw
      rw [hD] at HR
      have HRp := Lib.hid fun W => repeat_blank r (by omega) W
      rw [hR] at HRp
      obtain ⟨E, hE⟩ : ∃ E, D ++ R = E := ⟨_, rfl⟩
      rw [hE] at hlw
      have hEl : E.length ≤ 3630 := by rw [← hE, List.length_append]; omega
      have hE0 : E ≠ [] := by
        intro h
        have h1 := hlw.1
        rw [h] at h1
        have h2 : Xs.parse KX [] = (Xs.Ex.zero, 0, 10) := by decide +kernel
        rw [h2] at h1
        injection h1 with _ h1
        injection h1 with _ h1
        cases h1
      obtain ⟨hp1, p2, hp2, hp3, hp4⟩ := hlw
      have HE := Lib.hid hE
      obtain ⟨z, hz⟩ : ∃ z, (Xs.parse KX (E ++ [32, 42, 32, 42, 9, 42])).1 = z := ⟨_, rfl⟩
      obtain ⟨F, hF⟩ : ∃ F : ByteArray, (⟨E.toArray⟩ : ByteArray) = F := ⟨_, rfl⟩
      have hFd : F.data.toList = E := by rw [← hF]
      have hFs : F.size = E.length := by rw [← hF]; show E.toArray.size = _; rw [List.size_toArray]
      obtain ⟨G, hG⟩ : ∃ G : ByteArray, F ++ { data := #[32, 42, 32, 42, 9, 42] } = G := ⟨_, rfl⟩
      have hGd : G.data.toList = E ++ [32, 42, 32, 42, 9, 42] := by rw [← hG, ByteArray.data_append, Array.toList_append, hFd]
      have hGs : G.size = E.length + 6 := by
        have h := congrArg List.length hGd
        rw [Array.length_toList, List.length_append] at h
        exact h
      have hPx := fun W h => expr_Parse F (by omega) W h
      rw [hFd, hp1] at hPx
      have hPz := fun W h => expr_Parse G (by omega) W h
      rw [hGd, show Xs.parse KX (E ++ [32, 42, 32, 42, 9, 42]) = (z, p2, 10) from Prod.ext hz hp2] at hPz
      have HPx : Hid (∀ W, TabX W → Calls Tryz.prog 13 #[.string F] W fun e w' => e = .returned (.tuple #[exV x.second x.minute x.hour x.day x.month x.week x.anyDay x.anyWeek, .int .i64 0, .int .i64 0]) ∧ Below W.heap.size W w') := Lib.hid hPx
      have HPz : Hid (∀ W, TabX W → Calls Tryz.prog 13 #[.string G] W fun e w' => e = .returned (.tuple #[exV z.second z.minute z.hour z.day z.month z.week z.anyDay z.anyWeek, .int .i64 p2, .int .i64 10]) ∧ Below W.heap.size W w') := Lib.hid hPz
      have hGI : (F : ByteArray) ++ { data := #[32, 42, 32, 42, 9, 42] } = G := hG
      have HF := Lib.hid hF
      have HE0 := Lib.hid hE0
      have hEl2 : E.length + 6 ≤ 9223372036854775807 := by omega
      have hRs : (ByteArray.mk R.toArray).size = r := by show R.toArray.size = r; rw [List.size_toArray]; exact hRl
      have HDl := Lib.hid (And.intro hDl hRs)
      clear hR hD hp1 hp2 hz hF hPx hPz hG hE0 hE hGd hFd
      go_wp2_with (first
        | (go_at_call 37; rw [HrI.out]; (with_reducible refine (HRp.out _).mono ?_); clear HRp; rintro e v2 ⟨rfl, hb⟩; have S2 := Lib.hid (HR.out.grow hb); clear hb)
        | (go_at_call 36; (with_reducible refine (write_string b D ⟨R.toArray⟩ v2 S2.out.ib (by have := HDl.out; omega) S2.out.sz).mono ?_); rintro e v3 ⟨rfl, h1, h2, h3⟩; have h4 : IsB b E v3 := (by rw [← HE.out]; exact h1); have S3 := Lib.hid (S2.out.kept h4 h2 h3); clear h1 h2 h3 h4)
        | (go_at_call 38; (with_reducible refine (build_string b E v3 S3.out.ib HE0.out).mono ?_); rintro e v4 ⟨he, h1, h2, h3⟩; rw [HF.out] at he; subst he; have S4 := Lib.hid (S3.out.kept h1 h2 h3); clear h1 h2 h3)
        | (go_at_call 13; (with_reducible refine (HPx.out _ (HX.out.grow S4.out.bl)).mono ?_); clear HPx; rintro e v5 ⟨rfl, hb⟩; have S5 := Lib.hid ((S4.out.grow hb).grow ((Below.refl _ _).alloc (Nat.le_refl _) (.cells (exC x.second x.minute x.hour x.day x.month x.week x.anyDay x.anyWeek) 25))); have KX5 := Lib.hid (Blk.new v5 25 (exC x.second x.minute x.hour x.day x.month x.week x.anyDay x.anyWeek)); have HXb : Hid (v5.heap.size ≠ b) := Lib.hid (by have := (S4.out.grow hb).sz; have h7 := (S4.out.grow hb).wd.lt; have h8 := S4.out.gb; omega); clear hb)
        | (go_at_call 38; (with_reducible refine (build_string b E _ S5.out.ib HE0.out).mono ?_); rintro e v6 ⟨he, h1, h2, h3⟩; rw [HF.out] at he; subst he; have S6 := Lib.hid (S5.out.kept h1 h2 h3); have KX6 : Hid (Blk v6 v5.heap.size 25 (exC x.second x.minute x.hour x.day x.month x.week x.anyDay x.anyWeek)) := Lib.hid (h3 _ _ KX5.out (fun e => HXb.out (Option.some.inj e)) (fun c fz e => by cases e)); clear h1 h2 h3)
        | (go_at_call 13; (with_reducible refine (HPz.out _ (HX.out.grow S6.out.bl)).mono ?_); clear HPz; rintro e v7 ⟨rfl, hb⟩; have S8 := Lib.hid ((S6.out.grow hb).grow ((Below.refl _ _).alloc (Nat.le_refl _) (.cells (exC z.second z.minute z.hour z.day z.month z.week z.anyDay z.anyWeek) 25))); have KX8 := Lib.hid ((KX6.out.below hb KX6.out.lt).alloc (.cells (exC z.second z.minute z.hour z.day z.month z.week z.anyDay z.anyWeek) 25)); clear hb))
      obtain ⟨V, hV⟩ : ∃ V, v7.alloc (.cells (exC z.second z.minute z.hour z.day z.month z.week z.anyDay z.anyWeek) 25) = V := ⟨_, rfl⟩
      rw [hV] at S8 KX8 ⊢
      clear hV
      have T0 : Hid (BlkS w b g E ts (setsC l kk) V.drew) := Lib.hid ⟨S8.out.ib, S8.out.wd, S8.out.bx, S8.out.bl.drew, S8.out.sz, S8.out.gb, S8.out.wb⟩
      have KX0 : Hid (Blk V.drew v5.heap.size 25 (exC x.second x.minute x.hour x.day x.month x.week x.anyDay x.anyWeek)) := Lib.hid KX8.out.drew
      obtain ⟨q, hq⟩ : ∃ q, E.length + 6 = q := ⟨_, rfl⟩
      have f1 : (E.length : Int) + 6 = (q : Int) := by omega
      have f2 : IntKind.i64.wrap (q : Int) = (q : Int) := (Go.IntWalk.i64_left _).trans (Go.IntWalk.wrap64_in _ (by omega))
      have f3 : decide ((0 : Int) < (p2 : Int)) = true := decide_eq_true (by omega)
      have f4 : decide ((p2 : Int) < (q : Int)) = true := decide_eq_true (by omega)
      have f5 : decide (0 < p2) = true := decide_eq_true (by omega)
      have f6 : decide (p2 < q) = true := decide_eq_true (by omega)
      clear hq hp3 hp4
      refine wp_region_held_drew (S := fun V => Blk V w.heap.size 42 (setsC l kk) ∧ Blk V v5.heap.size 25 (exC x.second x.minute x.hour x.day x.month x.week x.anyDay x.anyWeek) ∧ IsB b E V) (by kernel_rfl) ⟨T0.out.bx, KX0.out, T0.out.ib⟩ (fun hHeld => ?_)
      refine wpAnyH_take (i := 0) (oi := ?oi701) (v := ?vv701) ?hi701 (by kernel_rfl) (by kernel_rfl) (by kernel_rfl) ?hq701 (Or.inl ⟨?hw701, ?hy701⟩) (by assumption) ?rs701
      case hi701 => (simp only [Hg]; rfl)
      case hq701 => exact fun _ _ _ h => h
      case hw701 => rfl
      case hy701 => (intro w hSw; obtain ⟨sc, sf⟩ := hSw.1.facts; obtain ⟨tc, tf⟩ := hSw.2.1.facts; clear hSw; go_simp <;> with_reducible rfl)
      simp only [Hp]
      refine wpAnyH_take (i := 1) (oi := ?oi702) (v := ?vv702) ?hi702 (by kernel_rfl) (by kernel_rfl) (by kernel_rfl) ?hq702 (Or.inl ⟨?hw702, ?hy702⟩) (by assumption) ?rs702
      case hi702 => (simp only [Hg]; rfl)
      case hq702 => exact fun _ _ _ h => h
      case hw702 => rfl
      case hy702 => (intro w hSw; obtain ⟨sc, sf⟩ := hSw.1.facts; obtain ⟨tc, tf⟩ := hSw.2.1.facts; clear hSw; go_simp <;> with_reducible rfl)
      simp only [Hp]
      refine wpAnyH_take (i := 2) (oi := ?oi703) (v := ?vv703) ?hi703 (by kernel_rfl) (by kernel_rfl) (by kernel_rfl) ?hq703 (Or.inl ⟨?hw703, ?hy703⟩) (by assumption) ?rs703
      case hi703 => (simp only [Hg]; rfl)
      case hq703 => exact fun _ _ _ h => h
      case hw703 => rfl
      case hy703 => (intro w hSw; obtain ⟨sc, sf⟩ := hSw.1.facts; obtain ⟨tc, tf⟩ := hSw.2.1.facts; clear hSw; go_simp <;> with_reducible rfl)
      simp only [Hp]
      refine wpAnyH_take (i := 3) (oi := ?oi704) (v := ?vv704) ?hi704 (by kernel_rfl) (by kernel_rfl) (by kernel_rfl) ?hq704 (Or.inl ⟨?hw704, ?hy704⟩) (by assumption) ?rs704
      case hi704 => (simp only [Hg]; rfl)
      case hq704 => exact fun _ _ _ h => h
      case hw704 => rfl
      case hy704 => (intro w hSw; obtain ⟨sc, sf⟩ := hSw.1.facts; obtain ⟨tc, tf⟩ := hSw.2.1.facts; clear hSw; go_simp <;> with_reducible rfl)
      simp only [Hp]
      refine wpAnyH_take (i := 4) (oi := ?oi705) (v := ?vv705) ?hi705 (by kernel_rfl) (by kernel_rfl) (by kernel_rfl) ?hq705 (Or.inl ⟨?hw705, ?hy705⟩) (by assumption) ?rs705
      case hi705 => (simp only [Hg]; rfl)
      case hq705 => exact fun _ _ _ h => h
      case hw705 => rfl
      case hy705 => (intro w hSw; obtain ⟨sc, sf⟩ := hSw.1.facts; obtain ⟨tc, tf⟩ := hSw.2.1.facts; clear hSw; go_simp <;> with_reducible rfl)
      simp only [Hp]
      refine wpAnyH_ready (rs := [5]) (by kernel_rfl) (by simp) (AllReadyH.cons (o := ?oi706) ?hi706 (fun K hK => ?rs706) AllReadyH.nil)
      case hi706 => (simp only [Hg]; rfl)
      go_simp
      (go_at_call 25; (with_reducible refine (HM.out _).mono ?_); clear HM; rintro e y1 ⟨rfl, hy⟩; have T1 := Lib.hid (T0.out.grow hy); have KX1 := Lib.hid (KX0.out.below hy KX0.out.lt); clear hy)
      refine hK.out _ _ ⟨T1.out.bx, KX1.out, T1.out.ib⟩ (fun hHeld => ?_)
      clear hK K
      try simp only [Hp]
      refine wpAnyH_take (i := 6) (oi := ?oi707) (v := ?vv707) ?hi707 (by kernel_rfl) (by kernel_rfl) (by kernel_rfl) ?hq707 (Or.inl ⟨?hw707, ?hy707⟩) (by assumption) ?rs707
      case hi707 => (simp only [Hg]; rfl)
      case hq707 => exact fun _ _ _ h => h
      case hw707 => rfl
      case hy707 => (intro w hSw; obtain ⟨sc, sf⟩ := hSw.1.facts; obtain ⟨tc, tf⟩ := hSw.2.1.facts; clear hSw; go_simp <;> with_reducible rfl)
      simp only [Hp]
      refine wpAnyH_take (i := 7) (oi := ?oi708) (v := ?vv708) ?hi708 (by kernel_rfl) (by kernel_rfl) (by kernel_rfl) ?hq708 (Or.inl ⟨?hw708, ?hy708⟩) (by assumption) ?rs708
      case hi708 => (simp only [Hg]; rfl)
      case hq708 => exact fun _ _ _ h => h
      case hw708 => rfl
      case hy708 => (intro w hSw; obtain ⟨sc, sf⟩ := hSw.1.facts; obtain ⟨tc, tf⟩ := hSw.2.1.facts; clear hSw; go_simp <;> with_reducible rfl)
      simp only [Hp]
      refine wpAnyH_take (i := 8) (oi := ?oi709) (v := ?vv709) ?hi709 (by kernel_rfl) (by kernel_rfl) (by kernel_rfl) ?hq709 (Or.inl ⟨?hw709, ?hy709⟩) (by assumption) ?rs709
      case hi709 => (simp only [Hg]; rfl)
      case hq709 => exact fun _ _ _ h => h
      case hw709 => rfl
      case hy709 => (intro w hSw; obtain ⟨sc, sf⟩ := hSw.1.facts; obtain ⟨tc, tf⟩ := hSw.2.1.facts; clear hSw; go_simp <;> with_reducible rfl)
      simp only [Hp]
      refine wpAnyH_take (i := 9) (oi := ?oi710) (v := ?vv710) ?hi710 (by kernel_rfl) (by kernel_rfl) (by kernel_rfl) ?hq710 (Or.inl ⟨?hw710, ?hy710⟩) (by assumption) ?rs710
      case hi710 => (simp only [Hg]; rfl)
      case hq710 => exact fun _ _ _ h => h
      case hw710 => rfl
      case hy710 => (intro w hSw; obtain ⟨sc, sf⟩ := hSw.1.facts; obtain ⟨tc, tf⟩ := hSw.2.1.facts; clear hSw; go_simp <;> with_reducible rfl)
      simp only [Hp]
      refine wpAnyH_take (i := 10) (oi := ?oi711) (v := ?vv711) ?hi711 (by kernel_rfl) (by kernel_rfl) (by kernel_rfl) ?hq711 (Or.inl ⟨?hw711, ?hy711⟩) (by assumption) ?rs711
      case hi711 => (simp only [Hg]; rfl)
      case hq711 => exact fun _ _ _ h => h
      case hw711 => rfl
      case hy711 => (intro w hSw; obtain ⟨sc, sf⟩ := hSw.1.facts; obtain ⟨tc, tf⟩ := hSw.2.1.facts; clear hSw; go_simp <;> with_reducible rfl)
      simp only [Hp]
      refine wpAnyH_take (i := 11) (oi := ?oi712) (v := ?vv712) ?hi712 (by kernel_rfl) (by kernel_rfl) (by kernel_rfl) ?hq712 (Or.inl ⟨?hw712, ?hy712⟩) (by assumption) ?rs712
      case hi712 => (simp only [Hg]; rfl)
      case hq712 => exact fun _ _ _ h => h
      case hw712 => rfl
      case hy712 => (intro w hSw; obtain ⟨sc, sf⟩ := hSw.1.facts; obtain ⟨tc, tf⟩ := hSw.2.1.facts; clear hSw; go_simp <;> with_reducible rfl)
      simp only [Hp]
      refine wpAnyH_take (i := 12) (oi := ?oi713) (v := ?vv713) ?hi713 (by kernel_rfl) (by kernel_rfl) (by kernel_rfl) ?hq713 (Or.inl ⟨?hw713, ?hy713⟩) (by assumption) ?rs713
      case hi713 => (simp only [Hg]; rfl)
      case hq713 => exact fun _ _ _ h => h
      case hw713 => rfl
      case hy713 => (intro w hSw; obtain ⟨sc, sf⟩ := hSw.1.facts; obtain ⟨tc, tf⟩ := hSw.2.1.facts; clear hSw; go_simp <;> with_reducible rfl)
      simp only [Hp]
      refine wpAnyH_take (i := 13) (oi := ?oi714) (v := ?vv714) ?hi714 (by kernel_rfl) (by kernel_rfl) (by kernel_rfl) ?hq714 (Or.inl ⟨?hw714, ?hy714⟩) (by assumption) ?rs714
      case hi714 => (simp only [Hg]; rfl)
      case hq714 => exact fun _ _ _ h => h
      case hw714 => rfl
      case hy714 => (intro w hSw; obtain ⟨sc, sf⟩ := hSw.1.facts; obtain ⟨tc, tf⟩ := hSw.2.1.facts; clear hSw; go_simp <;> with_reducible rfl)
      simp only [Hp]
      refine wpAnyH_take (i := 14) (oi := ?oi715) (v := ?vv715) ?hi715 (by kernel_rfl) (by kernel_rfl) (by kernel_rfl) ?hq715 (Or.inl ⟨?hw715, ?hy715⟩) (by assumption) ?rs715
      case hi715 => (simp only [Hg]; rfl)
      case hq715 => exact fun _ _ _ h => h
      case hw715 => rfl
      case hy715 => (intro w hSw; obtain ⟨sc, sf⟩ := hSw.1.facts; obtain ⟨tc, tf⟩ := hSw.2.1.facts; clear hSw; go_simp <;> with_reducible rfl)
      simp only [Hp]
      refine wpAnyH_take (i := 15) (oi := ?oi716) (v := ?vv716) ?hi716 (by kernel_rfl) (by kernel_rfl) (by kernel_rfl) ?hq716 (Or.inl ⟨?hw716, ?hy716⟩) (by assumption) ?rs716
      case hi716 => (simp only [Hg]; rfl)
      case hq716 => exact fun _ _ _ h => h
      case hw716 => rfl
      case hy716 => (intro w hSw; obtain ⟨sc, sf⟩ := hSw.1.facts; obtain ⟨tc, tf⟩ := hSw.2.1.facts; clear hSw; go_simp <;> with_reducible rfl)
      simp only [Hp]
      refine wpAnyH_take (i := 16) (oi := ?oi717) (v := ?vv717) ?hi717 (by kernel_rfl) (by kernel_rfl) (by kernel_rfl) ?hq717 (Or.inl ⟨?hw717, ?hy717⟩) (by assumption) ?rs717
      case hi717 => (simp only [Hg]; rfl)
      case hq717 => exact fun _ _ _ h => h
      case hw717 => rfl
      case hy717 => (intro w hSw; obtain ⟨sc, sf⟩ := hSw.1.facts; obtain ⟨tc, tf⟩ := hSw.2.1.facts; clear hSw; go_simp <;> with_reducible rfl)
      simp only [Hp]
      refine wpAnyH_take (i := 17) (oi := ?oi718) (v := ?vv718) ?hi718 (by kernel_rfl) (by kernel_rfl) (by kernel_rfl) ?hq718 (Or.inl ⟨?hw718, ?hy718⟩) (by assumption) ?rs718
      case hi718 => (simp only [Hg]; rfl)
      case hq718 => exact fun _ _ _ h => h
      case hw718 => rfl
      case hy718 => (intro w hSw; obtain ⟨sc, sf⟩ := hSw.1.facts; obtain ⟨tc, tf⟩ := hSw.2.1.facts; clear hSw; go_simp <;> with_reducible rfl)
      simp only [Hp]
      refine wpAnyH_take (i := 18) (oi := ?oi719) (v := ?vv719) ?hi719 (by kernel_rfl) (by kernel_rfl) (by kernel_rfl) ?hq719 (Or.inl ⟨?hw719, ?hy719⟩) (by assumption) ?rs719
      case hi719 => (simp only [Hg]; rfl)
      case hq719 => exact fun _ _ _ h => h
      case hw719 => rfl
      case hy719 => (intro w hSw; obtain ⟨sc, sf⟩ := hSw.1.facts; obtain ⟨tc, tf⟩ := hSw.2.1.facts; clear hSw; go_simp <;> with_reducible rfl)
      simp only [Hp]
      refine wpAnyH_take (i := 19) (oi := ?oi720) (v := ?vv720) ?hi720 (by kernel_rfl) (by kernel_rfl) (by kernel_rfl) ?hq720 (Or.inl ⟨?hw720, ?hy720⟩) (by assumption) ?rs720
      case hi720 => (simp only [Hg]; rfl)
      case hq720 => exact fun _ _ _ h => h
      case hw720 => rfl
      case hy720 => (intro w hSw; obtain ⟨sc, sf⟩ := hSw.1.facts; obtain ⟨tc, tf⟩ := hSw.2.1.facts; clear hSw; go_simp <;> with_reducible rfl)
      simp only [Hp]
      refine wpAnyH_take (i := 20) (oi := ?oi721) (v := ?vv721) ?hi721 (by kernel_rfl) (by kernel_rfl) (by kernel_rfl) ?hq721 (Or.inl ⟨?hw721, ?hy721⟩) (by assumption) ?rs721
      case hi721 => (simp only [Hg]; rfl)
      case hq721 => exact fun _ _ _ h => h
      case hw721 => rfl
      case hy721 => (intro w hSw; obtain ⟨sc, sf⟩ := hSw.1.facts; obtain ⟨tc, tf⟩ := hSw.2.1.facts; clear hSw; go_simp <;> with_reducible rfl)
      simp only [Hp]
      refine wpAnyH_take (i := 21) (oi := ?oi722) (v := ?vv722) ?hi722 (by kernel_rfl) (by kernel_rfl) (by kernel_rfl) ?hq722 (Or.inl ⟨?hw722, ?hy722⟩) (by assumption) ?rs722
      case hi722 => (simp only [Hg]; rfl)
      case hq722 => exact fun _ _ _ h => h
      case hw722 => rfl
      case hy722 => (intro w hSw; obtain ⟨sc, sf⟩ := hSw.1.facts; obtain ⟨tc, tf⟩ := hSw.2.1.facts; clear hSw; go_simp <;> with_reducible rfl)
      simp only [Hp]
      refine wpAnyH_ready (rs := [22]) (by kernel_rfl) (by simp) (AllReadyH.cons (o := ?oi723) ?hi723 (fun K hK => ?rs723) AllReadyH.nil)
      case hi723 => (simp only [Hg]; rfl)
      go_simp
      (go_at_call 39; (with_reducible refine (build_len b E _ T1.out.ib).mono ?_); rintro e y2 ⟨rfl, rfl⟩)
      refine hK.out _ _ ⟨T1.out.bx, KX1.out, T1.out.ib⟩ (fun hHeld => ?_)
      clear hK K
      try simp only [Hp]
      refine wpAnyH_take (i := 23) (oi := ?oi724) (v := ?vv724) ?hi724 (by kernel_rfl) (by kernel_rfl) (by kernel_rfl) ?hq724 (Or.inl ⟨?hw724, ?hy724⟩) (by assumption) ?rs724
      case hi724 => (simp only [Hg]; rfl)
      case hq724 => exact fun _ _ _ h => h
      case hw724 => rfl
      case hy724 => (intro w hSw; obtain ⟨sc, sf⟩ := hSw.1.facts; obtain ⟨tc, tf⟩ := hSw.2.1.facts; clear hSw; go_simp <;> with_reducible rfl)
      simp only [Hp]
      refine wpAnyH_take (i := 24) (oi := ?oi725) (v := ?vv725) ?hi725 (by kernel_rfl) (by kernel_rfl) (by kernel_rfl) ?hq725 (Or.inl ⟨?hw725, ?hy725⟩) (by assumption) ?rs725
      case hi725 => (simp only [Hg]; rfl)
      case hq725 => exact fun _ _ _ h => h
      case hw725 => rfl
      case hy725 => (intro w hSw; obtain ⟨sc, sf⟩ := hSw.1.facts; obtain ⟨tc, tf⟩ := hSw.2.1.facts; clear hSw; go_simp <;> with_reducible rfl)
      simp only [Hp]
      refine wpAnyH_take (i := 25) (oi := ?oi726) (v := ?vv726) ?hi726 (by kernel_rfl) (by kernel_rfl) (by kernel_rfl) ?hq726 (Or.inl ⟨?hw726, ?hy726⟩) (by assumption) ?rs726
      case hi726 => (simp only [Hg]; rfl)
      case hq726 => exact fun _ _ _ h => h
      case hw726 => rfl
      case hy726 => (intro w hSw; obtain ⟨sc, sf⟩ := hSw.1.facts; obtain ⟨tc, tf⟩ := hSw.2.1.facts; clear hSw; go_simp <;> with_reducible rfl)
      simp only [Hp]
      refine wpAnyH_take (i := 26) (oi := ?oi727) (v := ?vv727) ?hi727 (by kernel_rfl) (by kernel_rfl) (by kernel_rfl) ?hq727 (Or.inl ⟨?hw727, ?hy727⟩) (by assumption) ?rs727
      case hi727 => (simp only [Hg]; rfl)
      case hq727 => exact fun _ _ _ h => h
      case hw727 => rfl
      case hy727 => (intro w hSw; obtain ⟨sc, sf⟩ := hSw.1.facts; obtain ⟨tc, tf⟩ := hSw.2.1.facts; clear hSw; go_simp <;> with_reducible rfl)
      simp only [Hp]
      refine wpAnyH_ready (rs := [27]) (by kernel_rfl) (by simp) (AllReadyH.cons (o := ?oi728) ?hi728 (fun K hK => ?rs728) AllReadyH.nil)
      case hi728 => (simp only [Hg]; rfl)
      go_simp
      (go_at_call 12; (with_reducible refine (HW.out _ (HX.out.grow T1.out.bl)).mono ?_); rintro e y3 ⟨rfl, hy⟩; have T2 := Lib.hid (T1.out.grow hy); have KX2 := Lib.hid (KX1.out.below hy KX1.out.lt); clear hy)
      refine hK.out _ _ ⟨T2.out.bx, KX2.out, T2.out.ib⟩ (fun hHeld => ?_)
      clear hK K
      try simp only [Hp]
      refine wpAnyH_take (i := 28) (oi := ?oi729) (v := ?vv729) ?hi729 (by kernel_rfl) (by kernel_rfl) (by kernel_rfl) ?hq729 (Or.inl ⟨?hw729, ?hy729⟩) (by assumption) ?rs729
      case hi729 => (simp only [Hg]; rfl)
      case hq729 => exact fun _ _ _ h => h
      case hw729 => rfl
      case hy729 => (intro w hSw; obtain ⟨sc, sf⟩ := hSw.1.facts; obtain ⟨tc, tf⟩ := hSw.2.1.facts; clear hSw; go_simp <;> with_reducible rfl)
      simp only [Hp]
      refine wpAnyH_take (i := 29) (oi := ?oi730) (v := ?vv730) ?hi730 (by kernel_rfl) (by kernel_rfl) (by kernel_rfl) ?hq730 (Or.inl ⟨?hw730, ?hy730⟩) (by assumption) ?rs730
      case hi730 => (simp only [Hg]; rfl)
      case hq730 => exact fun _ _ _ h => h
      case hw730 => rfl
      case hy730 => (intro w hSw; obtain ⟨sc, sf⟩ := hSw.1.facts; obtain ⟨tc, tf⟩ := hSw.2.1.facts; clear hSw; go_simp <;> with_reducible rfl)
      simp only [Hp]
      refine wpAnyH_done (by kernel_rfl) ?_ _
      go_wp2_with fail
      go_ret
      exact ⟨rfl, T2.out.bl⟩

set_option maxRecDepth 100000 in
theorem contract (H : Type) (enc : TypeId × Value → H) (W : World) (base : Nat) (args : Array Value) (ds gs : List (DataW H)) (before : List MemPlace)
    (hval : ∀ (j : Nat) t v, Tryz.f11.params[j]? = some t → args[j]? = some v → Value.okWide Tryz.prog W .any base t v)
    (hW : DataW.Whole enc Tryz.prog Tryz.f11.params.toList Rows.exprBlanksSpec.vars false W args.toList ds gs before) (hL : laidMetH Tryz.prog Rows.exprBlanksRow.laid W) (hS : W.ShapedOpen Tryz.prog) :
    Calls Tryz.prog 11 args W fun e W' => ∃ v, e = .returned v ∧ Rows.exprBlanksSpec.post enc Tryz.prog Tryz.f11 false true false false W args v W' := by
  have hT : TabX W := XRow.tabs_of hL hS
  have hW' := hW
  obtain ⟨p, q, hA0, hV, rfl, hfz, hnd⟩ := hW
  have hA : DataW.TrodAll enc Tryz.prog W 0 (fun _ => true) true Tryz.f11.params.toList args.toList ds p := hA0
  rw [Tryz.params11] at hA hval
  obtain ⟨v0, vs0, d0, ds0, p0, q0, hargs, rfl, rfl, h0, r0⟩ := trodAll_cons hA
  obtain ⟨v1, vs1, d1, ds1, p1, q1, rfl, rfl, rfl, h1, r1⟩ := trodAll_cons r0
  obtain ⟨rfl, rfl, rfl⟩ := trodAll_nil r1
  obtain rfl : args = #[v0, v1] := by cases args; simp_all
  obtain ⟨rfl, rfl⟩ := trodVars_none hV
  have h0k := h0
  obtain ⟨l0, k0, rfl, hl0, hk0⟩ := XRow.open_sets (hval 0 42 v0 rfl rfl) h0
  have h1k := h1
  obtain ⟨A1, n1, c1, rfl, hn1, hc1, hA1, hs1⟩ := XRow.open_bytes (hval 1 69 v1 rfl rfl) h1
  clear hA0
  simp only [List.append_nil] at hW'
  refine (walk l0 k0 A1 n1 c1 hl0 hk0 hn1 hc1 hA1 W hT hs1).mono fun e W' ⟨he, hb⟩ => ?_
  subst he
  exact ⟨_, rfl, _, _, _, [], _, [], hW', trodAll_cons_mk (shut_bool Tryz.underlying4 _) trodAll_mk0, (trodAll_cons_mk (Below.trod (by kernel_rfl) (by kernel_rfl) (of_decide_eq_true (by kernel_rfl)) h0k hb (fun x hx => hW'.lt x (by first | (simpa using hx; done) | (simp [hx]; done)))) (trodAll_cons_mk (Below.trod (by kernel_rfl) (by kernel_rfl) (of_decide_eq_true (by kernel_rfl)) h1k hb (fun x hx => hW'.lt x (by first | (simpa using hx; done) | (simp [hx]; done)))) trodAll_mk0)), rfl, hb.frame _, fun h => by cases h⟩

set_option maxRecDepth 100000 in
theorem lifted (os : Os) (started : os.Started) (H : Type) (enc : TypeId × Value → H) (F : Stop.Interp) :
    ReturnsInHanded {} Tryz.checked os 11 .any ((OpenSpec.ofChange Rows.exprBlanksSpec).preRow enc Tryz.prog Tryz.f11 Rows.exprBlanksRow.domain false Rows.exprBlanksRow.laid) (((OpenSpec.ofChange Rows.exprBlanksSpec).at F).post enc Tryz.prog Tryz.f11 false true false false) := by
  refine returnsInHanded_of_row (C := Tryz.checked) (s := OpenSpec.ofChange Rows.exprBlanksSpec) XRow.own started (by kernel_rfl) Tryz.func11
    (ChangeSpec.witness_shaped (enc := enc) (C := Tryz.checked) (os := os) (X := fun w _ => laidMetH Tryz.prog XRow.laidL w) false (World.laidAll Tryz.prog os XRow.laidL) #[.agg #[.int .u64 0, .int .u64 0, .int .u64 0, .int .u64 0, .int .u64 0, .int .u64 0, .int .u8 0], .slice none 0 0] 8 (World.laidAll_os _ _ _)
      (XRow.wit_shaped os _) (by kernel_rfl) (by kernel_rfl) (by kernel_rfl) (XRow.wit_laid os _)) ?_
  intro W base args ds gs before hval hW _ _ _ hL hS _
  exact contract H enc W base args ds gs before hval hW hL hS

theorem said : Rows.ExprBlanksSaid :=
  OpenClaim.holds_of_cond 11 Tryz.f11 rfl rfl rfl rfl rfl rfl rfl ⟨rfl, rfl, rfl, rfl, rfl⟩ rfl rfl rfl rfl rfl (by kernel_rfl) Tryz.func11 (by kernel_rfl)
    (of_decide_eq_true (by kernel_rfl)) (by unfold Func.isWrapper; first | (rw [if_pos (by decide +kernel)]; kernel_rfl) | (rw [if_neg (by decide +kernel)]; exact ⟨rfl, rfl⟩))
    (fun os started H enc _ F => by rw [OpenClaim.pre_eq_preRow]; exact lifted os started H enc F)

theorem plain (f : FuncId) (fn : Func) (hf : Tryz.pinned.checked.prog.funcNamed "wakeman/wakemanlaw07.ExprBlanks" = some f) (hfn : Tryz.pinned.checked.prog.funcs[f]? = some fn) :
    true = Tryz.pinned.checked.prog.looks [] ∧ ∀ (j : Nat) t, fn.params[j]? = some t → Tryz.pinned.checked.prog.wantsStandIn t = false := by
  obtain rfl : f = 11 := Option.some.inj ((show Tryz.prog.funcNamed "wakeman/wakemanlaw07.ExprBlanks" = some 11 by kernel_rfl).symm.trans hf) |>.symm
  obtain rfl : fn = Tryz.f11 := (Option.some.inj (Tryz.func11.symm.trans hfn)).symm
  refine ⟨by kernel_rfl, fun j t ht => ?_⟩
  rw [Tryz.params11] at ht
  have hm : t ∈ ([42, 69] : List TypeId) := by simpa using Array.mem_of_getElem? ht
  have hall : (([42, 69] : List TypeId).all fun u => !Tryz.prog.wantsStandIn u) = true := by kernel_rfl
  exact (show Tryz.prog.wantsStandIn t = false by simpa using List.all_eq_true.1 hall t hm)

theorem card : Rows.ExprBlanksCardSaid :=
  Claim7.holds_tied_plain_at .later [] _ _ _ _ said (fun _ h => by cases h) (by kernel_rfl) (fun _ h => by cases h) exprBlanks_row_tie rfl ⟨rfl, rfl⟩ (by kernel_rfl) rfl plain (by kernel_rfl)
#print axioms card
end Go.Proofs.YtjnlgaeedcklaaaGreatDoor.exprBlanks
