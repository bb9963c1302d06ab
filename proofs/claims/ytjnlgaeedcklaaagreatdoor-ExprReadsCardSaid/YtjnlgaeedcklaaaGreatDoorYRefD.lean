/-
  The document's Parse of a text that is no macro.
-/
import Derived.Test.YtjnlgaeedcklaaaGreatDoorYRefC
import Derived.Test.YtjnlgaeedcklaaaGreatDoorYRefW
import Derived.Test.YtjnlgaeedcklaaaGreatDoorXReadB
set_option linter.unusedVariables false
set_option linter.unusedSimpArgs false
namespace Go.Proofs.YtjnlgaeedcklaaaGreatDoor
open Go.RowKit

theorem info7_u64 : (Tryz.prog.info? 23).map (fun i => (i.zero, i.size, i.bytes)) = some (some (.int .u64 0), 1, 8) := by kernel_rfl
theorem info7_bool : (Tryz.prog.info? 4).map (fun i => (i.zero, i.size, i.bytes)) = some (some (.bool false), 1, 1) := by kernel_rfl
theorem own_one (w : World) (base : Nat) (e : TypeId) (v : Value) (h : base ≤ w.heap.size) : (w.alloc (.cells #[v] e)).ownsRow base e 1 (.slice (some ⟨w.heap.size, 0, none⟩) 1 1) 1 [v] :=
  ⟨rfl, .inr ⟨w.heap.size, 1, #[v], rfl, h, heap_alloc_new w _, Nat.le_refl _, by unfold maxLen; decide, rfl, rfl⟩⟩
theorem read_made {K : Nat → Fs.Kind} {ws : List (Nat × List UInt8)} {len f : Nat} {l : List (Nat × Bool)} (h : ws.length + f = 6) (hf : f ≤ 1) (hl : Xs.fields K f ws = .ok l) : Xs.read K ws len = (Xs.made (if f = 1 then (1, false) :: l else l), 0, 0) := by
  rw [Xs.read, if_neg (by omega), if_neg (by omega), show 6 - ws.length = f by omega, hl]
  by_cases h1 : f = 1
  · rw [if_pos h1]; simp only; rw [if_pos (by omega)]
  · rw [if_neg h1]; simp only; rw [if_neg (by omega)]
theorem kx_ParseR7 {i : Nat} {T : ByteArray} {st : Nat} {sb : Bool} {pl : Nat} {er : Int} (hs : T.size ≤ 100000) (hp : Fs.parse (KX i) T.data.toList = (st, sb, pl, er)) (W : World) (g : Nat) (lo hi : Int) (A : Option Addr) (c : Nat) (l : List ByteArray) (week : Bool) (h : KxAt W g i lo hi A c l week) :
    Calls Tryz.prog 44 #[.agg #[.int .i64 lo, .int .i64 hi, .slice A l.length c, .bool week], .string T] W fun e w' => e = .returned (.tuple #[.int .u64 st, .bool sb, .int .i64 pl, .int .i64 er]) ∧ Below W.heap.size W w' := by
  have := kx_ParseR h T hs
  rw [hp] at this
  exact this
theorem drew_cell7 (W : World) (a : Addr) : W.drew.cell? a = W.cell? a := rfl
theorem cell_far87 {W : World} {b g o : Nat} (h : b ≠ g) (y0 y1 y2 y3 y4 y5 y6 y7 : Value) : (put8 W g y0 y1 y2 y3 y4 y5 y6 y7).cell? ⟨b, o, none⟩ = W.cell? ⟨b, o, none⟩ := by
  have e : ∀ (V : World) (k : Nat) (y : Value), (V.setCell ⟨g, k, none⟩ y).cell? ⟨b, o, none⟩ = V.cell? ⟨b, o, none⟩ := fun V k y => World.cell?_of_block (a := ⟨b, o, none⟩) (Below.heap_setCell V ⟨g, k, none⟩ y b h)
  unfold put8
  rw [e, e, e, e, e, e, e, e]

set_option maxRecDepth 100000 in
set_option maxHeartbeats 16000000 in
theorem ref7_ParseR (s : ByteArray) (hs : s.size ≤ 100000) (hna : ¬ ∃ a w, Xs.words s.data.toList = [(a, w)] ∧ w[0]? = some 64) (w : World) :
    Calls Tryz.prog 14 #[.string s] w fun e w' => e = .returned (retX (Xs.read KX (Xs.words s.data.toList) s.size)) ∧ Below w.heap.size w w' := by
  have HNA := Lib.hid hna
  have HWo := Lib.hid fun W => ref7_Words s hs W
  clear hna
  go_enter Tryz.func14, Tryz.ntmps14
  go_upto_region 2 with (go_at_call 43; (with_reducible refine (HWo.out _).mono ?_); rintro e w1 ⟨pre, lv, pv, rfl, hL, hP, hws, hb⟩)
  have hbE := (Blk.new w 25 zeroC).below hb (by simp)
  have HB := Lib.hid (((Below.refl w.heap.size w).alloc (Nat.le_refl _) (.cells zeroC 25)).trans (hb.mono (by simp)))
  have HE := Lib.hid hbE
  obtain ⟨A, c, rfl⟩ := owns_slice hL
  obtain ⟨A', c', rfl⟩ := owns_slice hP
  have HL := Lib.hid hL
  have HP := Lib.hid hP
  have HS := Lib.hid hws
  have hlen : (Xs.words s.data.toList).length = pre.length := by rw [← hws, List.length_map]
  have hEl := hbE.lt
  obtain ⟨bE, hbe⟩ : ∃ b, b = w.heap.size := ⟨_, rfl⟩
  rw [← hbe] at HE hEl
  rw [← hbe]
  have l0 : w.heap.size ≤ bE := Nat.le_of_eq hbe.symm
  have l9 : bE ≤ w.heap.size := Nat.le_of_eq hbe
  clear hL hP hws hb hbE hbe
  by_cases h5 : pre.length < 5
  · have t5 : decide (pre.length < 5) = true := decide_eq_true h5
    have t5' : decide ((pre.length : Int) < 5) = true := decide_eq_true (by omega)
    have HR := Lib.hid (retX_zero (r := Xs.read KX (Xs.words s.data.toList) s.size) (p := s.size) (e := 10) (by rw [Xs.read, if_pos (by omega)]))
    have hEf := HE.out.set8 (.int .u64 0) (.int .u64 0) (.int .u64 0) (.int .u64 0) (.int .u64 0) (.int .u64 0) (.bool false) (.bool false)
    have HBf := Lib.hid (below_set8 HB.out l0 (.int .u64 0) (.int .u64 0) (.int .u64 0) (.int .u64 0) (.int .u64 0) (.int .u64 0) (.bool false) (.bool false))
    have HEf := Lib.hid hEf
    obtain ⟨ec, ef⟩ := HE.out.facts
    clear hEf
    by_cases h1 : pre.length = 1
    · have d1 : ((pre.length : Int) == 1) = true := by rw [beq_iff_eq]; omega
      obtain ⟨x, hx⟩ : ∃ x, pre = [x] := by
        rcases pre with _ | ⟨x, _ | ⟨y, r⟩⟩
        · simp at h1
        · exact ⟨x, rfl⟩
        · simp at h1
      obtain ⟨g, rfl, hnc, hg, hcell⟩ := row_cell (k := 0) (u := .string x.1.2) HL.out (by rw [hx]; rfl)
      obtain ⟨T, hT⟩ : ∃ T : ByteArray, x.1.2 = T := ⟨_, rfl⟩
      have hx0 : 0 < T.size := hT ▸ x.2.1
      rw [hT] at hcell
      have hw0 : T.data.toList[0]? = some (T[0]'hx0) := by rw [Array.getElem?_toList]; exact Array.getElem?_eq_getElem hx0
      have d64 : (((T[0]'hx0).toNat : Int) == 64) = false := by
        rw [beq_eq_false_iff_ne]
        intro h
        refine HNA.out ⟨x.1.1, x.1.2.data.toList, ?_, ?_⟩
        · rw [← HS.out, hx]; rfl
        · have h' : (T[0]'hx0).toNat = 64 := by omega
          rw [hT, hw0, show T[0]'hx0 = 64 from UInt8.toNat_inj.1 h']
      rw [h1]
      clear hw0 h1 hlen h5 hx d1 t5 t5' hT
      go_wp2_with fail
      clear ec ef
      obtain ⟨ec, ef⟩ := HEf.out.facts
      have hbf := HBf.out
      unfold put8 at ec ef hbf
      generalize World.setCell _ _ _ = WF at *
      exact bodyPost_ret (v := .tuple #[exV 0 0 0 0 0 0 false false, .int .i64 s.size, .int .i64 10]) (by simp [results, Tryz.results14, go_sem, ec, ef]) rfl ⟨by rw [HR.out], hbf⟩
    · have d1 : ((pre.length : Int) == 1) = false := by rw [beq_eq_false_iff_ne]; omega
      clear h1 hlen h5
      go_wp2_with fail
      clear ec ef
      obtain ⟨ec, ef⟩ := HEf.out.facts
      have hbf := HBf.out
      unfold put8 at ec ef hbf
      generalize World.setCell _ _ _ = WF at *
      exact bodyPost_ret (v := .tuple #[exV 0 0 0 0 0 0 false false, .int .i64 s.size, .int .i64 10]) (by simp [results, Tryz.results14, go_sem, ec, ef]) rfl ⟨by rw [HR.out], hbf⟩
  · have t5 : decide (pre.length < 5) = false := decide_eq_false h5
    have t5' : decide ((pre.length : Int) < 5) = false := decide_eq_false (by omega)
    have d1 : ((pre.length : Int) == 1) = false := by rw [beq_eq_false_iff_ne]; omega
    by_cases h7 : 6 < pre.length
    · have d7 : decide (6 < pre.length) = true := decide_eq_true h7
      have d7' : decide ((6 : Int) < (pre.length : Int)) = true := decide_eq_true (by omega)
      have h7' : (6 : Int) < (pre.length : Int) := by omega
      obtain ⟨x, hx⟩ : ∃ x, pre[6]? = some x := ⟨_, List.getElem?_eq_getElem h7⟩
      obtain ⟨gb, rfl, hnc, hgb, hcell⟩ := row_cell (k := 6) (u := .int .i64 x.1.1) HP.out (by rw [List.getElem?_map, hx]; rfl)
      have hgb0 : bE < gb := by have := (own_at HP.out rfl).1; simp at this; omega
      have HR := Lib.hid (retX_zero (r := Xs.read KX (Xs.words s.data.toList) s.size) (p := x.1.1) (e := 10) (by
        rw [Xs.read, if_neg (by omega), if_pos (by omega), ← HS.out, List.getD_eq_getElem?_getD, List.getElem?_map, hx]; rfl))
      have HEz := HE
      have HBz := HB
      obtain ⟨ec, ef⟩ := HE.out.facts
      obtain ⟨X, hX⟩ : ∃ X, x.1.1 = X := ⟨_, rfl⟩
      rw [hX] at hcell HR
      clear hx hX hlen
      go_wp2_with fail
      refine wp_region_held_drew (S := fun V => V.cell? ⟨gb, 6, none⟩ = some (.int .i64 X)) (by kernel_rfl) ?hs5001 (fun hHeld => ?rs5001)
      case hs5001 => exact hcell
      refine wpAnyH_take (i := 0) (oi := ?oi5002) (v := ?vv5002) ?hi5002 (by kernel_rfl) (by kernel_rfl) (by kernel_rfl) ?hq5002 (Or.inl ⟨?hw5002, ?hy5002⟩) (by assumption) ?rs5002
      case hi5002 => (simp only [Hg]; rfl)
      case hq5002 => exact fun _ _ _ h => h
      case hw5002 => rfl
      case hy5002 => (intro w hSw; (try dsimp only at hSw); go_simp <;> with_reducible rfl)
      simp only [Hp]
      refine wpAnyH_take (i := 1) (oi := ?oi5003) (v := ?vv5003) ?hi5003 (by kernel_rfl) (by kernel_rfl) (by kernel_rfl) ?hq5003 (Or.inl ⟨?hw5003, ?hy5003⟩) (by assumption) ?rs5003
      case hi5003 => (simp only [Hg]; rfl)
      case hq5003 => exact fun _ _ _ h => h
      case hw5003 => rfl
      case hy5003 => (intro w hSw; (try dsimp only at hSw); go_simp <;> with_reducible rfl)
      simp only [Hp]
      refine wpAnyH_take (i := 2) (oi := ?oi5004) (v := ?vv5004) ?hi5004 (by kernel_rfl) (by kernel_rfl) (by kernel_rfl) ?hq5004 (Or.inl ⟨?hw5004, ?hy5004⟩) (by assumption) ?rs5004
      case hi5004 => (simp only [Hg]; rfl)
      case hq5004 => exact fun _ _ _ h => h
      case hw5004 => rfl
      case hy5004 => (intro w hSw; (try dsimp only at hSw); go_simp <;> with_reducible rfl)
      simp only [Hp]
      refine wpAnyH_take (i := 3) (oi := ?oi5005) (v := ?vv5005) ?hi5005 (by kernel_rfl) (by kernel_rfl) (by kernel_rfl) ?hq5005 (Or.inl ⟨?hw5005, ?hy5005⟩) (by assumption) ?rs5005
      case hi5005 => (simp only [Hg]; rfl)
      case hq5005 => exact fun _ _ _ h => h
      case hw5005 => rfl
      case hy5005 => (intro w hSw; (try dsimp only at hSw); go_simp <;> with_reducible rfl)
      simp only [Hp]
      refine wpAnyH_ready (rs := [4]) (by kernel_rfl) (by simp) (AllReadyH.cons (o := ?oi5006) ?hi5006 (fun K hK => ?rs5006) AllReadyH.nil)
      case hi5006 => (simp only [Hg]; rfl)
      clear hHeld
      go_simp
      refine hK.out _ _ ?hs5006 (fun hHeld => ?rt5006)
      case hs5006 => exact (drew_cell7 _ _).trans ((cell_far87 (show gb ≠ bE by omega) _ _ _ _ _ _ _ _).trans hcell)
      clear hK K
      try simp only [Hp]
      refine wpAnyH_take (i := 5) (oi := ?oi5007) (v := ?vv5007) ?hi5007 (by kernel_rfl) (by kernel_rfl) (by kernel_rfl) ?hq5007 (Or.inl ⟨?hw5007, ?hy5007⟩) (by assumption) ?rs5007
      case hi5007 => (simp only [Hg]; rfl)
      case hq5007 => exact fun _ _ _ h => h
      case hw5007 => rfl
      case hy5007 => (intro w hSw; (try dsimp only at hSw); go_simp <;> with_reducible rfl)
      simp only [Hp]
      refine wpAnyH_take (i := 6) (oi := ?oi5008) (v := ?vv5008) ?hi5008 (by kernel_rfl) (by kernel_rfl) (by kernel_rfl) ?hq5008 (Or.inl ⟨?hw5008, ?hy5008⟩) (by assumption) ?rs5008
      case hi5008 => (simp only [Hg]; rfl)
      case hq5008 => exact fun _ _ _ h => h
      case hw5008 => rfl
      case hy5008 => (intro w hSw; (try dsimp only at hSw); go_simp <;> with_reducible rfl)
      simp only [Hp]
      refine wpAnyH_done (by kernel_rfl) ?_ _
      go_wp2_with fail
      clear ec ef
      have hEf := (HEz.out.set8 (.int .u64 0) (.int .u64 0) (.int .u64 0) (.int .u64 0) (.int .u64 0) (.int .u64 0) (.bool false) (.bool false)).drew
      have hBf := (below_set8 HBz.out l0 (.int .u64 0) (.int .u64 0) (.int .u64 0) (.int .u64 0) (.int .u64 0) (.int .u64 0) (.bool false) (.bool false)).drew
      unfold put8 at hEf hBf
      generalize World.drew _ = WZ at hEf hBf ⊢
      obtain ⟨ec, ef⟩ := hEf.facts
      exact bodyPost_ret (v := .tuple #[exV 0 0 0 0 0 0 false false, .int .i64 X, .int .i64 10]) (by simp [results, Tryz.results14, go_sem, ec, ef]) rfl ⟨by rw [HR.out], hBf⟩
    · have d7 : decide (6 < pre.length) = false := decide_eq_false h7
      have d7' : decide ((6 : Int) < (pre.length : Int)) = false := decide_eq_false (by omega)
      obtain ⟨u0, hu0, hp0, hp1, hp2⟩ := info_parts info7_u64
      obtain ⟨v0, hv0, hq0, hq1, hq2⟩ := info_parts info7_bool
      have hwlt := hEl
      by_cases h6 : pre.length = 6
      · have d6 : ((pre.length : Int) == 6) = true := by rw [beq_iff_eq]; omega
        have hn : pre.length = 6 := by omega
        rw [hn]
        go_wp2_with fail
        go_loopw [9, 10, 12] (fun lv sv v wr => ∃ (k : Nat) (got : List (Nat × Bool)), k ≤ 6 ∧ v = .int .i64 k ∧ Xs.fields KX 0 ((pre.take k).map encW) = .ok got ∧ got.length = k ∧ wr.ownsRow w1.heap.size 23 1 lv k (got.map fun g => .int .u64 (g.1 : Nat)) ∧ wr.ownsRow w1.heap.size 4 1 sv k (got.map fun g => .bool g.2) ∧ Below w1.heap.size w1 wr) (fun _ _ v _ => 6 - (intOf v).toNat)
        case atStart => exact ⟨0, [], Nat.zero_le _, rfl, rfl, rfl, World.ownsRow_nil _ _ _ _, World.ownsRow_nil _ _ _ _, ((Below.refl _ _).alloc (Nat.le_refl _) _).alloc (by simp) _⟩
        case round =>
          obtain ⟨k, got, hk, rfl, hok, hgl, hL3, hS3, hb3⟩ := hrel
          have HOK := Lib.hid hok
          have O3 := Lib.hid hL3
          have Q3 := Lib.hid hS3
          have B3 := Lib.hid hb3
          clear hok hL3 hS3 hb3
          have hnb : k ≤ pre.length := by omega
          by_cases hkn : k < pre.length
          · have d8 : decide ((k : Int) < 6) = true := decide_eq_true (by omega)
            have d8' : decide (k < 6) = true := decide_eq_true (by omega)
            have d8k : k < 6 := by omega
            have d8i : (k : Int) < 6 := by omega
            obtain ⟨x, hx⟩ : ∃ x, pre[k]? = some x := ⟨_, List.getElem?_eq_getElem hkn⟩
            have Hx := Lib.hid hx
            obtain ⟨ga, rfl, hnc, hga, hcell⟩ := row_cell (k := k) (u := .string x.1.2) HL.out (by rw [List.getElem?_map, hx]; rfl)
            have hck : wr.cell? ⟨ga, k, none⟩ = some (.string x.1.2) := (B3.out.cell (p := ⟨ga, k, none⟩) hga).trans hcell
            obtain ⟨i, hi⟩ : ∃ i, i = 0 + k := ⟨_, rfl⟩
            have hi6 : i < 6 := by omega
            have hi6' : (i : Int) < 6 := by omega
            have hfk2 : (0 : Int) + (k : Int) = (i : Int) := by omega
            have Hi := Lib.hid hi
            have hwk : IntKind.i64.wrap (i : Int) = (i : Int) := (Go.IntWalk.i64_left _).trans (Go.IntWalk.wrap64_in _ (by omega))
            obtain rfl : k = i := by omega
            obtain ⟨st, sb, pl, er, hp⟩ : ∃ st sb pl er, Fs.parse (KX k) x.1.2.data.toList = (st, sb, pl, er) := ⟨_, _, _, _, rfl⟩
            have HPv := Lib.hid hp
            have HPa := Lib.hid (kx_ParseR7 (by have := x.2.2; omega) hp)
            have gs2 : ga < wr.drew.heap.size := Nat.lt_of_lt_of_le hga B3.out.size
            clear hfk2 hx hcell hp hi
            go_wp2_with fail
            refine wp_region_held_drew (S := fun V => V.cell? ⟨ga, k, none⟩ = some (.string x.1.2)) (by kernel_rfl) ?hs6001 (fun hHeld => ?rs6001)
            case hs6001 => exact hck
            refine wpAnyH_take (i := 1) (oi := ?oi6002) (v := ?vv6002) ?hi6002 (by kernel_rfl) (by kernel_rfl) (by kernel_rfl) ?hq6002 (Or.inl ⟨?hw6002, ?hy6002⟩) (by assumption) ?rs6002
            case hi6002 => (simp only [Hg]; rfl)
            case hq6002 => exact fun _ _ _ h => h
            case hw6002 => rfl
            case hy6002 => (intro w hSw; (try dsimp only at hSw); go_simp <;> with_reducible rfl)
            simp only [Hp]
            refine wpAnyH_take (i := 2) (oi := ?oi6003) (v := ?vv6003) ?hi6003 (by kernel_rfl) (by kernel_rfl) (by kernel_rfl) ?hq6003 (Or.inl ⟨?hw6003, ?hy6003⟩) (by assumption) ?rs6003
            case hi6003 => (simp only [Hg]; rfl)
            case hq6003 => exact fun _ _ _ h => h
            case hw6003 => rfl
            case hy6003 => (intro w hSw; (try dsimp only at hSw); go_simp <;> with_reducible rfl)
            simp only [Hp]
            refine wpAnyH_take (i := 3) (oi := ?oi6004) (v := ?vv6004) ?hi6004 (by kernel_rfl) (by kernel_rfl) (by kernel_rfl) ?hq6004 (Or.inl ⟨?hw6004, ?hy6004⟩) (by assumption) ?rs6004
            case hi6004 => (simp only [Hg]; rfl)
            case hq6004 => exact fun _ _ _ h => h
            case hw6004 => rfl
            case hy6004 => (intro w hSw; (try dsimp only at hSw); go_simp <;> with_reducible rfl)
            simp only [Hp]
            refine wpAnyH_take (i := 6) (oi := ?oi6005) (v := ?vv6005) ?hi6005 (by kernel_rfl) (by kernel_rfl) (by kernel_rfl) ?hq6005 (Or.inl ⟨?hw6005, ?hy6005⟩) (by assumption) ?rs6005
            case hi6005 => (simp only [Hg]; rfl)
            case hq6005 => exact fun _ _ _ h => h
            case hw6005 => rfl
            case hy6005 => (intro w hSw; (try dsimp only at hSw); go_simp <;> with_reducible rfl)
            simp only [Hp]
            refine wpAnyH_take (i := 7) (oi := ?oi6006) (v := ?vv6006) ?hi6006 (by kernel_rfl) (by kernel_rfl) (by kernel_rfl) ?hq6006 (Or.inl ⟨?hw6006, ?hy6006⟩) (by assumption) ?rs6006
            case hi6006 => (simp only [Hg]; rfl)
            case hq6006 => exact fun _ _ _ h => h
            case hw6006 => rfl
            case hy6006 => (intro w hSw; (try dsimp only at hSw); go_simp <;> with_reducible rfl)
            simp only [Hp]
            refine wpAnyH_take (i := 8) (oi := ?oi6007) (v := ?vv6007) ?hi6007 (by kernel_rfl) (by kernel_rfl) (by kernel_rfl) ?hq6007 (Or.inl ⟨?hw6007, ?hy6007⟩) (by assumption) ?rs6007
            case hi6007 => (simp only [Hg]; rfl)
            case hq6007 => exact fun _ _ _ h => h
            case hw6007 => rfl
            case hy6007 => (intro w hSw; (try dsimp only at hSw); go_simp <;> with_reducible rfl)
            simp only [Hp]
            refine wpAnyH_take (i := 9) (oi := ?oi6008) (v := ?vv6008) ?hi6008 (by kernel_rfl) (by kernel_rfl) (by kernel_rfl) ?hq6008 (Or.inl ⟨?hw6008, ?hy6008⟩) (by assumption) ?rs6008
            case hi6008 => (simp only [Hg]; rfl)
            case hq6008 => exact fun _ _ _ h => h
            case hw6008 => rfl
            case hy6008 => (intro w hSw; (try dsimp only at hSw); go_simp <;> with_reducible rfl)
            simp only [Hp]
            refine wpAnyH_ready (rs := [0]) (by kernel_rfl) (by simp) (AllReadyH.cons (o := ?oi6009) ?hi6009 (fun K hK => ?rs6009) AllReadyH.nil)
            case hi6009 => (simp only [Hg]; rfl)
            go_simp
            (go_at_call 45; (with_reducible refine (ref7_Six _).mono ?_); rintro e w3 ⟨gS, m, d, rfl, hb3, h6x⟩; obtain ⟨lo, hi7, A7, c7, l7, week, hkx⟩ := h6x.kx k hi6; have HB3 := Lib.hid hb3; have K3 := Lib.hid hkx; have hgS := h6x.lt; have c0 := hkx.c0; have c1 := hkx.c1; have c2 := hkx.c2; have c3 := hkx.c3; have gs3 : ga < w3.heap.size := Nat.lt_of_lt_of_le gs2 hb3.size)
            refine hK.out _ _ ?hs6009 (fun hHeld => ?rt6009)
            case hs6009 => exact (hb3.cell (p := ⟨ga, k, none⟩) gs2).trans hck
            clear hK K
            try simp only [Hp]
            refine wpAnyH_take (i := 4) (oi := ?oi6010) (v := ?vv6010) ?hi6010 (by kernel_rfl) (by kernel_rfl) (by kernel_rfl) ?hq6010 (Or.inl ⟨?hw6010, ?hy6010⟩) (by assumption) ?rs6010
            case hi6010 => (simp only [Hg]; rfl)
            case hq6010 => exact fun _ _ _ h => h
            case hw6010 => rfl
            case hy6010 => (intro w hSw; (try dsimp only at hSw); go_simp <;> with_reducible rfl)
            simp only [Hp]
            refine wpAnyH_ready (rs := [5]) (by kernel_rfl) (by simp) (AllReadyH.cons (o := ?oi6011) ?hi6011 (fun K hK => ?rs6011) AllReadyH.nil)
            case hi6011 => (simp only [Hg]; rfl)
            go_simp
            refine hK.out _ _ ?hs6011 (fun hHeld => ?rt6011)
            case hs6011 => assumption
            clear hK K
            try simp only [Hp]
            refine wpAnyH_ready (rs := [10]) (by kernel_rfl) (by simp) (AllReadyH.cons (o := ?oi6012) ?hi6012 (fun K hK => ?rs6012) AllReadyH.nil)
            case hi6012 => (simp only [Hg]; rfl)
            go_simp
            (go_at_call 44; (with_reducible refine (HPa.out _ _ _ _ _ _ _ _ K3.out).mono ?_); rintro e w4 ⟨rfl, hb4⟩; have HB4 := Lib.hid hb4)
            refine hK.out _ _ ?hs6012 (fun hHeld => ?rt6012)
            case hs6012 => exact (hb4.cell (p := ⟨ga, k, none⟩) gs3).trans ((hb3.cell (p := ⟨ga, k, none⟩) gs2).trans hck)
            clear hK K
            try simp only [Hp]
            refine wpAnyH_take (i := 11) (oi := ?oi6013) (v := ?vv6013) ?hi6013 (by kernel_rfl) (by kernel_rfl) (by kernel_rfl) ?hq6013 (Or.inl ⟨?hw6013, ?hy6013⟩) (by assumption) ?rs6013
            case hi6013 => (simp only [Hg]; rfl)
            case hq6013 => exact fun _ _ _ h => h
            case hw6013 => rfl
            case hy6013 => (intro w hSw; (try dsimp only at hSw); go_simp <;> with_reducible rfl)
            simp only [Hp]
            refine wpAnyH_take (i := 12) (oi := ?oi6014) (v := ?vv6014) ?hi6014 (by kernel_rfl) (by kernel_rfl) (by kernel_rfl) ?hq6014 (Or.inl ⟨?hw6014, ?hy6014⟩) (by assumption) ?rs6014
            case hi6014 => (simp only [Hg]; rfl)
            case hq6014 => exact fun _ _ _ h => h
            case hw6014 => rfl
            case hy6014 => (intro w hSw; (try dsimp only at hSw); go_simp <;> with_reducible rfl)
            simp only [Hp]
            refine wpAnyH_take (i := 13) (oi := ?oi6015) (v := ?vv6015) ?hi6015 (by kernel_rfl) (by kernel_rfl) (by kernel_rfl) ?hq6015 (Or.inl ⟨?hw6015, ?hy6015⟩) (by assumption) ?rs6015
            case hi6015 => (simp only [Hg]; rfl)
            case hq6015 => exact fun _ _ _ h => h
            case hw6015 => rfl
            case hy6015 => (intro w hSw; (try dsimp only at hSw); go_simp <;> with_reducible rfl)
            simp only [Hp]
            refine wpAnyH_take (i := 14) (oi := ?oi6016) (v := ?vv6016) ?hi6016 (by kernel_rfl) (by kernel_rfl) (by kernel_rfl) ?hq6016 (Or.inl ⟨?hw6016, ?hy6016⟩) (by assumption) ?rs6016
            case hi6016 => (simp only [Hg]; rfl)
            case hq6016 => exact fun _ _ _ h => h
            case hw6016 => rfl
            case hy6016 => (intro w hSw; (try dsimp only at hSw); go_simp <;> with_reducible rfl)
            simp only [Hp]
            refine wpAnyH_take (i := 15) (oi := ?oi6017) (v := ?vv6017) ?hi6017 (by kernel_rfl) (by kernel_rfl) (by kernel_rfl) ?hq6017 (Or.inl ⟨?hw6017, ?hy6017⟩) (by assumption) ?rs6017
            case hi6017 => (simp only [Hg]; rfl)
            case hq6017 => exact fun _ _ _ h => h
            case hw6017 => rfl
            case hy6017 => (intro w hSw; (try dsimp only at hSw); go_simp <;> with_reducible rfl)
            simp only [Hp]
            refine wpAnyH_take (i := 16) (oi := ?oi6018) (v := ?vv6018) ?hi6018 (by kernel_rfl) (by kernel_rfl) (by kernel_rfl) ?hq6018 (Or.inl ⟨?hw6018, ?hy6018⟩) (by assumption) ?rs6018
            case hi6018 => (simp only [Hg]; rfl)
            case hq6018 => exact fun _ _ _ h => h
            case hw6018 => rfl
            case hy6018 => (intro w hSw; (try dsimp only at hSw); go_simp <;> with_reducible rfl)
            simp only [Hp]
            refine wpAnyH_take (i := 17) (oi := ?oi6019) (v := ?vv6019) ?hi6019 (by kernel_rfl) (by kernel_rfl) (by kernel_rfl) ?hq6019 (Or.inl ⟨?hw6019, ?hy6019⟩) (by assumption) ?rs6019
            case hi6019 => (simp only [Hg]; rfl)
            case hq6019 => exact fun _ _ _ h => h
            case hw6019 => rfl
            case hy6019 => (intro w hSw; (try dsimp only at hSw); go_simp <;> with_reducible rfl)
            simp only [Hp]
            refine wpAnyH_take (i := 18) (oi := ?oi6020) (v := ?vv6020) ?hi6020 (by kernel_rfl) (by kernel_rfl) (by kernel_rfl) ?hq6020 (Or.inl ⟨?hw6020, ?hy6020⟩) (by assumption) ?rs6020
            case hi6020 => (simp only [Hg]; rfl)
            case hq6020 => exact fun _ _ _ h => h
            case hw6020 => rfl
            case hy6020 => (intro w hSw; (try dsimp only at hSw); go_simp <;> with_reducible rfl)
            simp only [Hp]
            refine wpAnyH_take (i := 19) (oi := ?oi6021) (v := ?vv6021) ?hi6021 (by kernel_rfl) (by kernel_rfl) (by kernel_rfl) ?hq6021 (Or.inl ⟨?hw6021, ?hy6021⟩) (by assumption) ?rs6021
            case hi6021 => (simp only [Hg]; rfl)
            case hq6021 => exact fun _ _ _ h => h
            case hw6021 => rfl
            case hy6021 => (intro w hSw; (try dsimp only at hSw); go_simp <;> with_reducible rfl)
            simp only [Hp]
            refine wpAnyH_done (by kernel_rfl) ?_ _
            clear c0 c1 c2 c3 hck
            have B4 : Hid (Below w1.heap.size w1 w4) := Lib.hid (B3.out.drew.trans ((HB3.out.trans (HB4.out.mono HB3.out.size)).mono B3.out.size))
            have BW : Hid (Below wr.heap.size wr w4) := Lib.hid ((Below.refl wr.heap.size wr).drew.trans (HB3.out.trans (HB4.out.mono HB3.out.size)))
            have O4 := Lib.hid (own_kp O3.out (Kp.of_below (S := fun _ => False) BW.out) (fun i h => h.elim))
            have Q4 := Lib.hid (own_kp Q3.out (Kp.of_below (S := fun _ => False) BW.out) (fun i h => h.elim))
            by_cases he : er = 0
            · have de : (er != 0) = false := by rw [he]; rfl
              have He := Lib.hid he
              clear he
              go_wp2_with (first
                | (at_builtin; refine wpList_append_own _ rfl _ _ 90 rfl w1.heap.size 23 u0 _ 1 8 Tryz.underlying90 hu0 hp0 hp1 hp2 rfl (by decide) u9 k (got.map fun g => Value.int .u64 (g.1 : Nat)) rfl (O4.out.alloc _) ⟨w4.heap.size, 0, none⟩ 1 1 [.int .u64 st] rfl rfl (cell_one_new _ _ _) (by intro u hu; simp at hu; subst hu; rfl) (by unfold maxLen; omega) (by omega) (by have := B4.out.size; simp; omega) ?_; intro v5 w5 hown5 hgrow5 _
                   have B5 := Lib.hid ((B4.out.alloc B4.out.size _).grown hgrow5 (by have := B4.out.size; simp; omega) (fun i hi => (O4.out.lt i hi).1))
                   have Q5 := Lib.hid ((Q4.out.alloc (.cells #[.int .u64 st] 23)).kept hgrow5 (rows_far (Q4.out.alloc (.cells #[.int .u64 st] 23)) (O4.out.alloc (.cells #[.int .u64 st] 23)) (by decide)))
                   have O5 := Lib.hid hown5
                   clear hown5 hgrow5)
                | (at_builtin; refine wpList_append_own _ rfl _ _ 91 rfl w1.heap.size 4 v0 _ 1 1 Tryz.underlying91 hv0 hq0 hq1 hq2 rfl (by decide) u10 k (got.map fun g => Value.bool g.2) rfl (Q5.out.alloc _) ⟨w5.heap.size, 0, none⟩ 1 1 [.bool sb] rfl rfl (cell_one_new _ _ _) (by intro u hu; simp at hu; subst hu; rfl) (by unfold maxLen; omega) (by omega) (by have := B5.out.size; simp; omega) ?_; intro v6 w6 hown6 hgrow6 _
                   have B6 := Lib.hid ((B5.out.alloc B5.out.size _).grown hgrow6 (by have := B5.out.size; simp; omega) (fun i hi => (Q5.out.lt i hi).1))
                   have O6 := Lib.hid ((O5.out.alloc (.cells #[.bool sb] 4)).kept hgrow6 (rows_far (O5.out.alloc (.cells #[.bool sb] 4)) (Q5.out.alloc (.cells #[.bool sb] 4)) (by decide)))
                   have Q6 := Lib.hid hown6
                   clear hown6 hgrow6))
              go_roundw
              case rel =>
                refine ⟨k + 1, got ++ [(st, sb)], by omega, by go_num, ?_, by rw [List.length_append, hgl]; rfl, ?_, ?_, B6.out⟩
                · have h := take_next (K := KX) Hx.out HOK.out (by rw [← Hi.out, HPv.out]; exact He.out)
                  rw [← Hi.out, HPv.out] at h
                  exact h
                · have h := O6.out
                  simpa using h
                · have h := Q6.out
                  simpa using h
              case measure => simp [intOf]; omega
            · have de : (er != 0) = true := by rw [bne, beq_eq_false_iff_ne.2 he]; rfl
              have hpl : pl ≤ x.1.2.data.toList.length := by
                rcases Fs.parse_facts (kinds_ok.ok k hi6) x.1.2.data.toList with ⟨h, _⟩ | ⟨_, _, ⟨_, h⟩ | ⟨_, h⟩⟩
                · rw [HPv.out] at h; exact absurd h he
                · rw [HPv.out] at h; exact h
                · rw [HPv.out] at h; exact Nat.le_of_lt h
              have hsum : x.1.1 + pl ≤ 100000 := by
                have h1 := x.2.2
                have h2 : x.1.2.data.toList.length = x.1.2.size := by rw [Array.length_toList]; rfl
                omega
              obtain ⟨q, hq⟩ : ∃ q, x.1.1 + pl = q := ⟨_, rfl⟩
              have HR : Hid (retX (Xs.read KX (Xs.words s.data.toList) s.size) = .tuple #[exV 0 0 0 0 0 0 false false, .int .i64 q, .int .i64 er]) := Lib.hid (retX_zero (Xs.read_bad (f := 0) (by rw [← HS.out, List.length_map]; omega) (by omega) (by
                have h := take_bad (K := KX) Hx.out HOK.out (by rw [← Hi.out, HPv.out]; exact he)
                rw [← Hi.out, HPv.out, HS.out] at h
                rw [← hq]
                exact h)))
              obtain ⟨gb, rfl, hnc2, hgb, hcell2⟩ := row_cell (k := k) (u := .int .i64 x.1.1) HP.out (by rw [List.getElem?_map, Hx.out]; rfl)
              have hgb0 : bE < gb := by have := (own_at HP.out rfl).1; simp at this; omega
              obtain ⟨X, hX⟩ : ∃ X, x.1.1 = X := ⟨_, rfl⟩
              rw [hX] at hcell2 hq
              have yb : w4.cell? ⟨gb, k, none⟩ = some (.int .i64 X) := (B4.out.cell (p := ⟨gb, k, none⟩) hgb).trans hcell2
              have hs2 : (X : Int) + (pl : Int) = (q : Int) := by omega
              have hq5 : q ≤ 100000 := by omega
              have hwq : IntKind.i64.wrap (q : Int) = (q : Int) := (Go.IntWalk.i64_left _).trans (Go.IntWalk.wrap64_in _ (by omega))
              have HEz := Lib.hid (HE.out.below B4.out hEl)
              have HBz := Lib.hid (HB.out.trans (B4.out.mono HB.out.size))
              obtain ⟨ec, ef⟩ := HEz.out.facts
              clear hsum hq hpl he hcell2 hX hlen
              go_wp2_with fail
              refine wp_region_held_drew (S := fun V => V.cell? ⟨gb, k, none⟩ = some (.int .i64 X)) (by kernel_rfl) ?hs6022 (fun hHeld => ?rs6022)
              case hs6022 => exact yb
              refine wpAnyH_take (i := 0) (oi := ?oi6023) (v := ?vv6023) ?hi6023 (by kernel_rfl) (by kernel_rfl) (by kernel_rfl) ?hq6023 (Or.inl ⟨?hw6023, ?hy6023⟩) (by assumption) ?rs6023
              case hi6023 => (simp only [Hg]; rfl)
              case hq6023 => exact fun _ _ _ h => h
              case hw6023 => rfl
              case hy6023 => (intro w hSw; (try dsimp only at hSw); go_simp <;> with_reducible rfl)
              simp only [Hp]
              refine wpAnyH_take (i := 1) (oi := ?oi6024) (v := ?vv6024) ?hi6024 (by kernel_rfl) (by kernel_rfl) (by kernel_rfl) ?hq6024 (Or.inl ⟨?hw6024, ?hy6024⟩) (by assumption) ?rs6024
              case hi6024 => (simp only [Hg]; rfl)
              case hq6024 => exact fun _ _ _ h => h
              case hw6024 => rfl
              case hy6024 => (intro w hSw; (try dsimp only at hSw); go_simp <;> with_reducible rfl)
              simp only [Hp]
              refine wpAnyH_take (i := 2) (oi := ?oi6025) (v := ?vv6025) ?hi6025 (by kernel_rfl) (by kernel_rfl) (by kernel_rfl) ?hq6025 (Or.inl ⟨?hw6025, ?hy6025⟩) (by assumption) ?rs6025
              case hi6025 => (simp only [Hg]; rfl)
              case hq6025 => exact fun _ _ _ h => h
              case hw6025 => rfl
              case hy6025 => (intro w hSw; (try dsimp only at hSw); go_simp <;> with_reducible rfl)
              simp only [Hp]
              refine wpAnyH_take (i := 3) (oi := ?oi6026) (v := ?vv6026) ?hi6026 (by kernel_rfl) (by kernel_rfl) (by kernel_rfl) ?hq6026 (Or.inl ⟨?hw6026, ?hy6026⟩) (by assumption) ?rs6026
              case hi6026 => (simp only [Hg]; rfl)
              case hq6026 => exact fun _ _ _ h => h
              case hw6026 => rfl
              case hy6026 => (intro w hSw; (try dsimp only at hSw); go_simp <;> with_reducible rfl)
              simp only [Hp]
              refine wpAnyH_take (i := 4) (oi := ?oi6027) (v := ?vv6027) ?hi6027 (by kernel_rfl) (by kernel_rfl) (by kernel_rfl) ?hq6027 (Or.inl ⟨?hw6027, ?hy6027⟩) (by assumption) ?rs6027
              case hi6027 => (simp only [Hg]; rfl)
              case hq6027 => exact fun _ _ _ h => h
              case hw6027 => rfl
              case hy6027 => (intro w hSw; (try dsimp only at hSw); go_simp <;> with_reducible rfl)
              simp only [Hp]
              refine wpAnyH_take (i := 5) (oi := ?oi6028) (v := ?vv6028) ?hi6028 (by kernel_rfl) (by kernel_rfl) (by kernel_rfl) ?hq6028 (Or.inl ⟨?hw6028, ?hy6028⟩) (by assumption) ?rs6028
              case hi6028 => (simp only [Hg]; rfl)
              case hq6028 => exact fun _ _ _ h => h
              case hw6028 => rfl
              case hy6028 => (intro w hSw; (try dsimp only at hSw); go_simp <;> with_reducible rfl)
              simp only [Hp]
              refine wpAnyH_take (i := 6) (oi := ?oi6029) (v := ?vv6029) ?hi6029 (by kernel_rfl) (by kernel_rfl) (by kernel_rfl) ?hq6029 (Or.inl ⟨?hw6029, ?hy6029⟩) (by assumption) ?rs6029
              case hi6029 => (simp only [Hg]; rfl)
              case hq6029 => exact fun _ _ _ h => h
              case hw6029 => rfl
              case hy6029 => (intro w hSw; (try dsimp only at hSw); go_simp <;> with_reducible rfl)
              simp only [Hp]
              refine wpAnyH_take (i := 7) (oi := ?oi6030) (v := ?vv6030) ?hi6030 (by kernel_rfl) (by kernel_rfl) (by kernel_rfl) ?hq6030 (Or.inl ⟨?hw6030, ?hy6030⟩) (by assumption) ?rs6030
              case hi6030 => (simp only [Hg]; rfl)
              case hq6030 => exact fun _ _ _ h => h
              case hw6030 => rfl
              case hy6030 => (intro w hSw; (try dsimp only at hSw); go_simp <;> with_reducible rfl)
              simp only [Hp]
              refine wpAnyH_ready (rs := [8]) (by kernel_rfl) (by simp) (AllReadyH.cons (o := ?oi6031) ?hi6031 (fun K hK => ?rs6031) AllReadyH.nil)
              case hi6031 => (simp only [Hg]; rfl)
              clear hHeld
              go_simp
              refine hK.out _ _ ?hs6031 (fun hHeld => ?rt6031)
              case hs6031 => exact (drew_cell7 _ _).trans ((cell_far87 (show gb ≠ bE by omega) _ _ _ _ _ _ _ _).trans yb)
              clear hK K
              try simp only [Hp]
              refine wpAnyH_take (i := 9) (oi := ?oi6032) (v := ?vv6032) ?hi6032 (by kernel_rfl) (by kernel_rfl) (by kernel_rfl) ?hq6032 (Or.inl ⟨?hw6032, ?hy6032⟩) (by assumption) ?rs6032
              case hi6032 => (simp only [Hg]; rfl)
              case hq6032 => exact fun _ _ _ h => h
              case hw6032 => rfl
              case hy6032 => (intro w hSw; (try dsimp only at hSw); go_simp <;> with_reducible rfl)
              simp only [Hp]
              refine wpAnyH_take (i := 10) (oi := ?oi6033) (v := ?vv6033) ?hi6033 (by kernel_rfl) (by kernel_rfl) (by kernel_rfl) ?hq6033 (Or.inl ⟨?hw6033, ?hy6033⟩) (by assumption) ?rs6033
              case hi6033 => (simp only [Hg]; rfl)
              case hq6033 => exact fun _ _ _ h => h
              case hw6033 => rfl
              case hy6033 => (intro w hSw; (try dsimp only at hSw); go_simp <;> with_reducible rfl)
              simp only [Hp]
              refine wpAnyH_done (by kernel_rfl) ?_ _
              go_wp2_with fail
              clear ec ef
              have hEf := (HEz.out.set8 (.int .u64 0) (.int .u64 0) (.int .u64 0) (.int .u64 0) (.int .u64 0) (.int .u64 0) (.bool false) (.bool false)).drew
              have hBf := (below_set8 HBz.out l0 (.int .u64 0) (.int .u64 0) (.int .u64 0) (.int .u64 0) (.int .u64 0) (.int .u64 0) (.bool false) (.bool false)).drew
              unfold put8 at hEf hBf
              generalize World.drew _ = WZ at hEf hBf ⊢
              obtain ⟨ec, ef⟩ := hEf.facts
              exact bodyPost_ret (v := .tuple #[exV 0 0 0 0 0 0 false false, .int .i64 q, .int .i64 er]) (by simp [results, Tryz.results14, go_sem, ec, ef]) rfl ⟨by rw [HR.out], hBf⟩
          · have d8 : decide ((k : Int) < 6) = false := decide_eq_false (by omega)
            have d8' : decide (k < 6) = false := decide_eq_false (by omega)
            have hkn' : k = 6 := by omega
            subst hkn'
            have hfin : Xs.fields KX 0 (Xs.words s.data.toList) = .ok got := by
              have h := HOK.out
              rw [List.take_of_length_le (by omega), HS.out] at h
              exact h
            have HR := Lib.hid (read_made (len := s.size) (f := 0) (by rw [← HS.out, List.length_map]; omega) (by omega) hfin)
            obtain ⟨a0, a1, a2, a3, a4, a5, hG⟩ := Xs.list_six (l := got) (by simp [hgl])
            have hRv : Xs.read KX (Xs.words s.data.toList) s.size = (⟨a0.1, a1.1, a2.1, a3.1, a4.1, a5.1, a3.2, a5.2⟩, 0, 0) := by
              rw [HR.out]
              show (Xs.made got, 0, 0) = _
              rw [hG]
              rfl
            have HRv := Lib.hid hRv
            have O : wr.ownsRow w1.heap.size 23 1 u9 6 [.int .u64 (a0.1 : Nat), .int .u64 (a1.1 : Nat), .int .u64 (a2.1 : Nat), .int .u64 (a3.1 : Nat), .int .u64 (a4.1 : Nat), .int .u64 (a5.1 : Nat)] := by
              have h := O3.out
              rw [hG] at h
              exact h
            have Q : wr.ownsRow w1.heap.size 4 1 u10 6 [.bool a0.2, .bool a1.2, .bool a2.2, .bool a3.2, .bool a4.2, .bool a5.2] := by
              have h := Q3.out
              rw [hG] at h
              exact h
            obtain ⟨Al, cl, rfl⟩ := owns_slice O
            obtain ⟨As, cs, rfl⟩ := owns_slice Q
            obtain ⟨gl, rfl, -, hgll, hl0⟩ := row_cell (k := 0) (u := .int .u64 (a0.1 : Nat)) O rfl
            obtain ⟨gq, rfl, -, hgq, hq3⟩ := row_cell (k := 3) (u := .bool a3.2) Q rfl
            have hlj : ∀ (j : Nat) (v : Value), ([.int .u64 (a0.1 : Nat), .int .u64 (a1.1 : Nat), .int .u64 (a2.1 : Nat), .int .u64 (a3.1 : Nat), .int .u64 (a4.1 : Nat), .int .u64 (a5.1 : Nat)] : List Value)[j]? = some v → wr.cell? ⟨gl, j, none⟩ = some v := fun j v hv => by
              obtain ⟨g', hg', -, -, h⟩ := row_cell (k := j) (u := v) O hv
              injection hg' with e
              injection e with e1
              rw [e1]
              exact h
            have hq5 : wr.cell? ⟨gq, 5, none⟩ = some (.bool a5.2) := by
              obtain ⟨g', hg', -, -, h⟩ := row_cell (k := 5) (u := .bool a5.2) Q rfl
              injection hg' with e
              injection e with e1
              rw [e1]
              exact h
            have hgq0 : bE < gq := by have h : w1.heap.size ≤ gq := (own_at Q rfl).1; omega
            have HM := Lib.hid (ref7_made gl cl a0.1 a1.1 a2.1 a3.1 a4.1 a5.1 a3.2 a5.2 wr.drew hgll (hlj 0 _ rfl) (hlj 1 _ rfl) (hlj 2 _ rfl) (hlj 3 _ rfl) (hlj 4 _ rfl) (hlj 5 _ rfl))
            have hgqd : gq < wr.drew.heap.size := hgq
            have hEd : bE < wr.drew.heap.size := Nat.lt_of_lt_of_le hEl B3.out.size
            have E3 := Lib.hid (HE.out.below B3.out hEl)
            have BZ := Lib.hid (HB.out.trans (B3.out.mono HB.out.size))
            generalize a0.1 = x0 at *
            generalize a1.1 = x1 at *
            generalize a2.1 = x2 at *
            generalize a3.1 = x3 at *
            generalize a4.1 = x4 at *
            generalize a5.1 = x5 at *
            generalize a3.2 = y3 at *
            generalize a5.2 = y5 at *
            clear hfin hG O Q hlj hl0 hgl hlen hRv
            go_wp2_with fail
            refine wp_region_held_drew (S := fun V => V.cell? ⟨gq, 3, none⟩ = some (.bool y3) ∧ V.cell? ⟨gq, 5, none⟩ = some (.bool y5)) (by kernel_rfl) ?hs8001 (fun hHeld => ?rs8001)
            case hs8001 => exact ⟨hq3, hq5⟩
            refine wpAnyH_take (i := 0) (oi := ?oi8002) (v := ?vv8002) ?hi8002 (by kernel_rfl) (by kernel_rfl) (by kernel_rfl) ?hq8002 (Or.inl ⟨?hw8002, ?hy8002⟩) (by assumption) ?rs8002
            case hi8002 => (simp only [Hg]; rfl)
            case hq8002 => exact fun _ _ _ h => h
            case hw8002 => rfl
            case hy8002 => (intro w hSw; (try dsimp only at hSw); go_simp <;> with_reducible rfl)
            simp only [Hp]
            refine wpAnyH_take (i := 1) (oi := ?oi8003) (v := ?vv8003) ?hi8003 (by kernel_rfl) (by kernel_rfl) (by kernel_rfl) ?hq8003 (Or.inl ⟨?hw8003, ?hy8003⟩) (by assumption) ?rs8003
            case hi8003 => (simp only [Hg]; rfl)
            case hq8003 => exact fun _ _ _ h => h
            case hw8003 => rfl
            case hy8003 => (intro w hSw; (try dsimp only at hSw); go_simp <;> with_reducible rfl)
            simp only [Hp]
            refine wpAnyH_take (i := 2) (oi := ?oi8004) (v := ?vv8004) ?hi8004 (by kernel_rfl) (by kernel_rfl) (by kernel_rfl) ?hq8004 (Or.inl ⟨?hw8004, ?hy8004⟩) (by assumption) ?rs8004
            case hi8004 => (simp only [Hg]; rfl)
            case hq8004 => exact fun _ _ _ h => h
            case hw8004 => rfl
            case hy8004 => (intro w hSw; (try dsimp only at hSw); go_simp <;> with_reducible rfl)
            simp only [Hp]
            refine wpAnyH_take (i := 3) (oi := ?oi8005) (v := ?vv8005) ?hi8005 (by kernel_rfl) (by kernel_rfl) (by kernel_rfl) ?hq8005 (Or.inl ⟨?hw8005, ?hy8005⟩) (by assumption) ?rs8005
            case hi8005 => (simp only [Hg]; rfl)
            case hq8005 => exact fun _ _ _ h => h
            case hw8005 => rfl
            case hy8005 => (intro w hSw; (try dsimp only at hSw); go_simp <;> with_reducible rfl)
            simp only [Hp]
            refine wpAnyH_take (i := 4) (oi := ?oi8006) (v := ?vv8006) ?hi8006 (by kernel_rfl) (by kernel_rfl) (by kernel_rfl) ?hq8006 (Or.inl ⟨?hw8006, ?hy8006⟩) (by assumption) ?rs8006
            case hi8006 => (simp only [Hg]; rfl)
            case hq8006 => exact fun _ _ _ h => h
            case hw8006 => rfl
            case hy8006 => (intro w hSw; (try dsimp only at hSw); go_simp <;> with_reducible rfl)
            simp only [Hp]
            refine wpAnyH_take (i := 5) (oi := ?oi8007) (v := ?vv8007) ?hi8007 (by kernel_rfl) (by kernel_rfl) (by kernel_rfl) ?hq8007 (Or.inl ⟨?hw8007, ?hy8007⟩) (by assumption) ?rs8007
            case hi8007 => (simp only [Hg]; rfl)
            case hq8007 => exact fun _ _ _ h => h
            case hw8007 => rfl
            case hy8007 => (intro w hSw; (try dsimp only at hSw); go_simp <;> with_reducible rfl)
            simp only [Hp]
            refine wpAnyH_take (i := 6) (oi := ?oi8008) (v := ?vv8008) ?hi8008 (by kernel_rfl) (by kernel_rfl) (by kernel_rfl) ?hq8008 (Or.inl ⟨?hw8008, ?hy8008⟩) (by assumption) ?rs8008
            case hi8008 => (simp only [Hg]; rfl)
            case hq8008 => exact fun _ _ _ h => h
            case hw8008 => rfl
            case hy8008 => (intro w hSw; (try dsimp only at hSw); go_simp <;> with_reducible rfl)
            simp only [Hp]
            refine wpAnyH_ready (rs := [7]) (by kernel_rfl) (by simp) (AllReadyH.cons (o := ?oi8009) ?hi8009 (fun K hK => ?rs8009) AllReadyH.nil)
            case hi8009 => (simp only [Hg]; rfl)
            go_simp
            (go_at_call 46; (with_reducible refine (HM.out).mono ?_); rintro e w3 ⟨rfl, hb3⟩; have HB3 := Lib.hid hb3; have E4 := Lib.hid (E3.out.drew.below hb3 hEd); obtain ⟨ec, ef⟩ := E4.out.facts; have q3 := (hb3.cell (p := ⟨gq, 3, none⟩) hgqd).trans hq3; have q5 := (hb3.cell (p := ⟨gq, 5, none⟩) hgqd).trans hq5)
            refine hK.out _ _ ?hs8009 (fun hHeld => ?rt8009)
            case hs8009 => exact ⟨q3, q5⟩
            clear hK K
            try simp only [Hp]
            refine wpAnyH_ready (rs := [8]) (by kernel_rfl) (by simp) (AllReadyH.cons (o := ?oi8010) ?hi8010 (fun K hK => ?rs8010) AllReadyH.nil)
            case hi8010 => (simp only [Hg]; rfl)
            clear hHeld
            go_simp
            refine hK.out _ _ ?hs8010 (fun hHeld => ?rt8010)
            case hs8010 => exact ⟨(cell_far87 (show gq ≠ bE by omega) _ _ _ _ _ _ _ _).trans q3, (cell_far87 (show gq ≠ bE by omega) _ _ _ _ _ _ _ _).trans q5⟩
            clear hK K
            try simp only [Hp]
            refine wpAnyH_take (i := 9) (oi := ?oi8011) (v := ?vv8011) ?hi8011 (by kernel_rfl) (by kernel_rfl) (by kernel_rfl) ?hq8011 (Or.inl ⟨?hw8011, ?hy8011⟩) (by assumption) ?rs8011
            case hi8011 => (simp only [Hg]; rfl)
            case hq8011 => exact fun _ _ _ h => h
            case hw8011 => rfl
            case hy8011 => (intro w hSw; (try dsimp only at hSw); go_simp <;> with_reducible rfl)
            simp only [Hp]
            refine wpAnyH_take (i := 10) (oi := ?oi8012) (v := ?vv8012) ?hi8012 (by kernel_rfl) (by kernel_rfl) (by kernel_rfl) ?hq8012 (Or.inl ⟨?hw8012, ?hy8012⟩) (by assumption) ?rs8012
            case hi8012 => (simp only [Hg]; rfl)
            case hq8012 => exact fun _ _ _ h => h
            case hw8012 => rfl
            case hy8012 => (intro w hSw; (try dsimp only at hSw); go_simp <;> with_reducible rfl)
            simp only [Hp]
            refine wpAnyH_done (by kernel_rfl) ?_ _
            go_wp2_with fail
            clear ec ef
            have hEf := E4.out.set8 (.int .u64 x0) (.int .u64 x1) (.int .u64 x2) (.int .u64 x3) (.int .u64 x4) (.int .u64 x5) (.bool y3) (.bool y5)
            have hBf := below_set8 (BZ.out.drew.trans (HB3.out.mono BZ.out.size)) l0 (.int .u64 x0) (.int .u64 x1) (.int .u64 x2) (.int .u64 x3) (.int .u64 x4) (.int .u64 x5) (.bool y3) (.bool y5)
            unfold put8 at hEf hBf
            generalize World.setCell _ _ _ = WZ at hEf hBf ⊢
            obtain ⟨ec, ef⟩ := hEf.facts
            exact bodyPost_ret (v := .tuple #[exV x0 x1 x2 x3 x4 x5 y3 y5, .int .i64 0, .int .i64 0]) (by simp [results, Tryz.results14, go_sem, ec, ef]) rfl ⟨by rw [HRv.out]; rfl, hBf⟩
      · have d6 : ((pre.length : Int) == 6) = false := by rw [beq_eq_false_iff_ne]; omega
        have hn : pre.length = 5 := by omega
        rw [hn]
        go_wp2_with fail
        go_loopw [9, 10, 12] (fun lv sv v wr => ∃ (k : Nat) (got : List (Nat × Bool)), k ≤ 5 ∧ v = .int .i64 k ∧ Xs.fields KX 1 ((pre.take k).map encW) = .ok got ∧ got.length = k ∧ wr.ownsRow w1.heap.size 23 1 lv (k + 1) (((1, false) :: got).map fun g => .int .u64 (g.1 : Nat)) ∧ wr.ownsRow w1.heap.size 4 1 sv (k + 1) (((1, false) :: got).map fun g => .bool g.2) ∧ Below w1.heap.size w1 wr) (fun _ _ v _ => 5 - (intOf v).toNat)
        case atStart => exact ⟨0, [], Nat.zero_le _, rfl, rfl, rfl, (own_one w1 _ 23 (.int .u64 1) (Nat.le_refl _)).alloc _, by have := own_one (w1.alloc (.cells #[.int .u64 1] 23)) w1.heap.size 4 (.bool false) (by simp); simpa using this, ((Below.refl _ _).alloc (Nat.le_refl _) _).alloc (by simp) _⟩
        case round =>
          obtain ⟨k, got, hk, rfl, hok, hgl, hL3, hS3, hb3⟩ := hrel
          have HOK := Lib.hid hok
          have O3 := Lib.hid hL3
          have Q3 := Lib.hid hS3
          have B3 := Lib.hid hb3
          clear hok hL3 hS3 hb3
          have hnb : k ≤ pre.length := by omega
          by_cases hkn : k < pre.length
          · have d8 : decide ((k : Int) < 5) = true := decide_eq_true (by omega)
            have d8' : decide (k < 5) = true := decide_eq_true (by omega)
            have d8k : k < 5 := by omega
            have d8i : (k : Int) < 5 := by omega
            obtain ⟨x, hx⟩ : ∃ x, pre[k]? = some x := ⟨_, List.getElem?_eq_getElem hkn⟩
            have Hx := Lib.hid hx
            obtain ⟨ga, rfl, hnc, hga, hcell⟩ := row_cell (k := k) (u := .string x.1.2) HL.out (by rw [List.getElem?_map, hx]; rfl)
            have hck : wr.cell? ⟨ga, k, none⟩ = some (.string x.1.2) := (B3.out.cell (p := ⟨ga, k, none⟩) hga).trans hcell
            obtain ⟨i, hi⟩ : ∃ i, i = 1 + k := ⟨_, rfl⟩
            have hi6 : i < 6 := by omega
            have hi6' : (i : Int) < 6 := by omega
            have hfk2 : (1 : Int) + (k : Int) = (i : Int) := by omega
            have Hi := Lib.hid hi
            have hwk : IntKind.i64.wrap (i : Int) = (i : Int) := (Go.IntWalk.i64_left _).trans (Go.IntWalk.wrap64_in _ (by omega))
            skip
            obtain ⟨st, sb, pl, er, hp⟩ : ∃ st sb pl er, Fs.parse (KX i) x.1.2.data.toList = (st, sb, pl, er) := ⟨_, _, _, _, rfl⟩
            have HPv := Lib.hid hp
            have HPa := Lib.hid (kx_ParseR7 (by have := x.2.2; omega) hp)
            have gs2 : ga < wr.drew.heap.size := Nat.lt_of_lt_of_le hga B3.out.size
            clear hx hcell hp hi
            go_wp2_with fail
            refine wp_region_held_drew (S := fun V => V.cell? ⟨ga, k, none⟩ = some (.string x.1.2)) (by kernel_rfl) ?hs7001 (fun hHeld => ?rs7001)
            case hs7001 => exact hck
            refine wpAnyH_take (i := 1) (oi := ?oi7002) (v := ?vv7002) ?hi7002 (by kernel_rfl) (by kernel_rfl) (by kernel_rfl) ?hq7002 (Or.inl ⟨?hw7002, ?hy7002⟩) (by assumption) ?rs7002
            case hi7002 => (simp only [Hg]; rfl)
            case hq7002 => exact fun _ _ _ h => h
            case hw7002 => rfl
            case hy7002 => (intro w hSw; (try dsimp only at hSw); go_simp <;> with_reducible rfl)
            simp only [Hp]
            refine wpAnyH_take (i := 2) (oi := ?oi7003) (v := ?vv7003) ?hi7003 (by kernel_rfl) (by kernel_rfl) (by kernel_rfl) ?hq7003 (Or.inl ⟨?hw7003, ?hy7003⟩) (by assumption) ?rs7003
            case hi7003 => (simp only [Hg]; rfl)
            case hq7003 => exact fun _ _ _ h => h
            case hw7003 => rfl
            case hy7003 => (intro w hSw; (try dsimp only at hSw); go_simp <;> with_reducible rfl)
            simp only [Hp]
            refine wpAnyH_take (i := 3) (oi := ?oi7004) (v := ?vv7004) ?hi7004 (by kernel_rfl) (by kernel_rfl) (by kernel_rfl) ?hq7004 (Or.inl ⟨?hw7004, ?hy7004⟩) (by assumption) ?rs7004
            case hi7004 => (simp only [Hg]; rfl)
            case hq7004 => exact fun _ _ _ h => h
            case hw7004 => rfl
            case hy7004 => (intro w hSw; (try dsimp only at hSw); go_simp <;> with_reducible rfl)
            simp only [Hp]
            refine wpAnyH_take (i := 6) (oi := ?oi7005) (v := ?vv7005) ?hi7005 (by kernel_rfl) (by kernel_rfl) (by kernel_rfl) ?hq7005 (Or.inl ⟨?hw7005, ?hy7005⟩) (by assumption) ?rs7005
            case hi7005 => (simp only [Hg]; rfl)
            case hq7005 => exact fun _ _ _ h => h
            case hw7005 => rfl
            case hy7005 => (intro w hSw; (try dsimp only at hSw); go_simp <;> with_reducible rfl)
            simp only [Hp]
            refine wpAnyH_take (i := 7) (oi := ?oi7006) (v := ?vv7006) ?hi7006 (by kernel_rfl) (by kernel_rfl) (by kernel_rfl) ?hq7006 (Or.inl ⟨?hw7006, ?hy7006⟩) (by assumption) ?rs7006
            case hi7006 => (simp only [Hg]; rfl)
            case hq7006 => exact fun _ _ _ h => h
            case hw7006 => rfl
            case hy7006 => (intro w hSw; (try dsimp only at hSw); go_simp <;> with_reducible rfl)
            simp only [Hp]
            refine wpAnyH_take (i := 8) (oi := ?oi7007) (v := ?vv7007) ?hi7007 (by kernel_rfl) (by kernel_rfl) (by kernel_rfl) ?hq7007 (Or.inl ⟨?hw7007, ?hy7007⟩) (by assumption) ?rs7007
            case hi7007 => (simp only [Hg]; rfl)
            case hq7007 => exact fun _ _ _ h => h
            case hw7007 => rfl
            case hy7007 => (intro w hSw; (try dsimp only at hSw); go_simp <;> with_reducible rfl)
            simp only [Hp]
            refine wpAnyH_take (i := 9) (oi := ?oi7008) (v := ?vv7008) ?hi7008 (by kernel_rfl) (by kernel_rfl) (by kernel_rfl) ?hq7008 (Or.inl ⟨?hw7008, ?hy7008⟩) (by assumption) ?rs7008
            case hi7008 => (simp only [Hg]; rfl)
            case hq7008 => exact fun _ _ _ h => h
            case hw7008 => rfl
            case hy7008 => (intro w hSw; (try dsimp only at hSw); go_simp <;> with_reducible rfl)
            simp only [Hp]
            refine wpAnyH_ready (rs := [0]) (by kernel_rfl) (by simp) (AllReadyH.cons (o := ?oi7009) ?hi7009 (fun K hK => ?rs7009) AllReadyH.nil)
            case hi7009 => (simp only [Hg]; rfl)
            go_simp
            (go_at_call 45; (with_reducible refine (ref7_Six _).mono ?_); rintro e w3 ⟨gS, m, d, rfl, hb3, h6x⟩; obtain ⟨lo, hi7, A7, c7, l7, week, hkx⟩ := h6x.kx i hi6; have HB3 := Lib.hid hb3; have K3 := Lib.hid hkx; have hgS := h6x.lt; have c0 := hkx.c0; have c1 := hkx.c1; have c2 := hkx.c2; have c3 := hkx.c3; have gs3 : ga < w3.heap.size := Nat.lt_of_lt_of_le gs2 hb3.size)
            refine hK.out _ _ ?hs7009 (fun hHeld => ?rt7009)
            case hs7009 => exact (hb3.cell (p := ⟨ga, k, none⟩) gs2).trans hck
            clear hK K
            try simp only [Hp]
            refine wpAnyH_take (i := 4) (oi := ?oi7010) (v := ?vv7010) ?hi7010 (by kernel_rfl) (by kernel_rfl) (by kernel_rfl) ?hq7010 (Or.inl ⟨?hw7010, ?hy7010⟩) (by assumption) ?rs7010
            case hi7010 => (simp only [Hg]; rfl)
            case hq7010 => exact fun _ _ _ h => h
            case hw7010 => rfl
            case hy7010 => (intro w hSw; (try dsimp only at hSw); go_simp <;> with_reducible rfl)
            simp only [Hp]
            refine wpAnyH_ready (rs := [5]) (by kernel_rfl) (by simp) (AllReadyH.cons (o := ?oi7011) ?hi7011 (fun K hK => ?rs7011) AllReadyH.nil)
            case hi7011 => (simp only [Hg]; rfl)
            go_simp
            refine hK.out _ _ ?hs7011 (fun hHeld => ?rt7011)
            case hs7011 => assumption
            clear hK K
            try simp only [Hp]
            refine wpAnyH_ready (rs := [10]) (by kernel_rfl) (by simp) (AllReadyH.cons (o := ?oi7012) ?hi7012 (fun K hK => ?rs7012) AllReadyH.nil)
            case hi7012 => (simp only [Hg]; rfl)
            go_simp
            (go_at_call 44; (with_reducible refine (HPa.out _ _ _ _ _ _ _ _ K3.out).mono ?_); rintro e w4 ⟨rfl, hb4⟩; have HB4 := Lib.hid hb4)
            refine hK.out _ _ ?hs7012 (fun hHeld => ?rt7012)
            case hs7012 => exact (hb4.cell (p := ⟨ga, k, none⟩) gs3).trans ((hb3.cell (p := ⟨ga, k, none⟩) gs2).trans hck)
            clear hK K
            try simp only [Hp]
            refine wpAnyH_take (i := 11) (oi := ?oi7013) (v := ?vv7013) ?hi7013 (by kernel_rfl) (by kernel_rfl) (by kernel_rfl) ?hq7013 (Or.inl ⟨?hw7013, ?hy7013⟩) (by assumption) ?rs7013
            case hi7013 => (simp only [Hg]; rfl)
            case hq7013 => exact fun _ _ _ h => h
            case hw7013 => rfl
            case hy7013 => (intro w hSw; (try dsimp only at hSw); go_simp <;> with_reducible rfl)
            simp only [Hp]
            refine wpAnyH_take (i := 12) (oi := ?oi7014) (v := ?vv7014) ?hi7014 (by kernel_rfl) (by kernel_rfl) (by kernel_rfl) ?hq7014 (Or.inl ⟨?hw7014, ?hy7014⟩) (by assumption) ?rs7014
            case hi7014 => (simp only [Hg]; rfl)
            case hq7014 => exact fun _ _ _ h => h
            case hw7014 => rfl
            case hy7014 => (intro w hSw; (try dsimp only at hSw); go_simp <;> with_reducible rfl)
            simp only [Hp]
            refine wpAnyH_take (i := 13) (oi := ?oi7015) (v := ?vv7015) ?hi7015 (by kernel_rfl) (by kernel_rfl) (by kernel_rfl) ?hq7015 (Or.inl ⟨?hw7015, ?hy7015⟩) (by assumption) ?rs7015
            case hi7015 => (simp only [Hg]; rfl)
            case hq7015 => exact fun _ _ _ h => h
            case hw7015 => rfl
            case hy7015 => (intro w hSw; (try dsimp only at hSw); go_simp <;> with_reducible rfl)
            simp only [Hp]
            refine wpAnyH_take (i := 14) (oi := ?oi7016) (v := ?vv7016) ?hi7016 (by kernel_rfl) (by kernel_rfl) (by kernel_rfl) ?hq7016 (Or.inl ⟨?hw7016, ?hy7016⟩) (by assumption) ?rs7016
            case hi7016 => (simp only [Hg]; rfl)
            case hq7016 => exact fun _ _ _ h => h
            case hw7016 => rfl
            case hy7016 => (intro w hSw; (try dsimp only at hSw); go_simp <;> with_reducible rfl)
            simp only [Hp]
            refine wpAnyH_take (i := 15) (oi := ?oi7017) (v := ?vv7017) ?hi7017 (by kernel_rfl) (by kernel_rfl) (by kernel_rfl) ?hq7017 (Or.inl ⟨?hw7017, ?hy7017⟩) (by assumption) ?rs7017
            case hi7017 => (simp only [Hg]; rfl)
            case hq7017 => exact fun _ _ _ h => h
            case hw7017 => rfl
            case hy7017 => (intro w hSw; (try dsimp only at hSw); go_simp <;> with_reducible rfl)
            simp only [Hp]
            refine wpAnyH_take (i := 16) (oi := ?oi7018) (v := ?vv7018) ?hi7018 (by kernel_rfl) (by kernel_rfl) (by kernel_rfl) ?hq7018 (Or.inl ⟨?hw7018, ?hy7018⟩) (by assumption) ?rs7018
            case hi7018 => (simp only [Hg]; rfl)
            case hq7018 => exact fun _ _ _ h => h
            case hw7018 => rfl
            case hy7018 => (intro w hSw; (try dsimp only at hSw); go_simp <;> with_reducible rfl)
            simp only [Hp]
            refine wpAnyH_take (i := 17) (oi := ?oi7019) (v := ?vv7019) ?hi7019 (by kernel_rfl) (by kernel_rfl) (by kernel_rfl) ?hq7019 (Or.inl ⟨?hw7019, ?hy7019⟩) (by assumption) ?rs7019
            case hi7019 => (simp only [Hg]; rfl)
            case hq7019 => exact fun _ _ _ h => h
            case hw7019 => rfl
            case hy7019 => (intro w hSw; (try dsimp only at hSw); go_simp <;> with_reducible rfl)
            simp only [Hp]
            refine wpAnyH_take (i := 18) (oi := ?oi7020) (v := ?vv7020) ?hi7020 (by kernel_rfl) (by kernel_rfl) (by kernel_rfl) ?hq7020 (Or.inl ⟨?hw7020, ?hy7020⟩) (by assumption) ?rs7020
            case hi7020 => (simp only [Hg]; rfl)
            case hq7020 => exact fun _ _ _ h => h
            case hw7020 => rfl
            case hy7020 => (intro w hSw; (try dsimp only at hSw); go_simp <;> with_reducible rfl)
            simp only [Hp]
            refine wpAnyH_take (i := 19) (oi := ?oi7021) (v := ?vv7021) ?hi7021 (by kernel_rfl) (by kernel_rfl) (by kernel_rfl) ?hq7021 (Or.inl ⟨?hw7021, ?hy7021⟩) (by assumption) ?rs7021
            case hi7021 => (simp only [Hg]; rfl)
            case hq7021 => exact fun _ _ _ h => h
            case hw7021 => rfl
            case hy7021 => (intro w hSw; (try dsimp only at hSw); go_simp <;> with_reducible rfl)
            simp only [Hp]
            refine wpAnyH_done (by kernel_rfl) ?_ _
            clear c0 c1 c2 c3 hck
            have B4 : Hid (Below w1.heap.size w1 w4) := Lib.hid (B3.out.drew.trans ((HB3.out.trans (HB4.out.mono HB3.out.size)).mono B3.out.size))
            have BW : Hid (Below wr.heap.size wr w4) := Lib.hid ((Below.refl wr.heap.size wr).drew.trans (HB3.out.trans (HB4.out.mono HB3.out.size)))
            have O4 := Lib.hid (own_kp O3.out (Kp.of_below (S := fun _ => False) BW.out) (fun i h => h.elim))
            have Q4 := Lib.hid (own_kp Q3.out (Kp.of_below (S := fun _ => False) BW.out) (fun i h => h.elim))
            by_cases he : er = 0
            · have de : (er != 0) = false := by rw [he]; rfl
              have He := Lib.hid he
              clear he
              go_wp2_with (first
                | (at_builtin; refine wpList_append_own _ rfl _ _ 90 rfl w1.heap.size 23 u0 _ 1 8 Tryz.underlying90 hu0 hp0 hp1 hp2 rfl (by decide) u9 (k + 1) (((1, false) :: got).map fun g => Value.int .u64 (g.1 : Nat)) rfl (O4.out.alloc _) ⟨w4.heap.size, 0, none⟩ 1 1 [.int .u64 st] rfl rfl (cell_one_new _ _ _) (by intro u hu; simp at hu; subst hu; rfl) (by unfold maxLen; omega) (by omega) (by have := B4.out.size; simp; omega) ?_; intro v5 w5 hown5 hgrow5 _
                   have B5 := Lib.hid ((B4.out.alloc B4.out.size _).grown hgrow5 (by have := B4.out.size; simp; omega) (fun i hi => (O4.out.lt i hi).1))
                   have Q5 := Lib.hid ((Q4.out.alloc (.cells #[.int .u64 st] 23)).kept hgrow5 (rows_far (Q4.out.alloc (.cells #[.int .u64 st] 23)) (O4.out.alloc (.cells #[.int .u64 st] 23)) (by decide)))
                   have O5 := Lib.hid hown5
                   clear hown5 hgrow5)
                | (at_builtin; refine wpList_append_own _ rfl _ _ 91 rfl w1.heap.size 4 v0 _ 1 1 Tryz.underlying91 hv0 hq0 hq1 hq2 rfl (by decide) u10 (k + 1) (((1, false) :: got).map fun g => Value.bool g.2) rfl (Q5.out.alloc _) ⟨w5.heap.size, 0, none⟩ 1 1 [.bool sb] rfl rfl (cell_one_new _ _ _) (by intro u hu; simp at hu; subst hu; rfl) (by unfold maxLen; omega) (by omega) (by have := B5.out.size; simp; omega) ?_; intro v6 w6 hown6 hgrow6 _
                   have B6 := Lib.hid ((B5.out.alloc B5.out.size _).grown hgrow6 (by have := B5.out.size; simp; omega) (fun i hi => (Q5.out.lt i hi).1))
                   have O6 := Lib.hid ((O5.out.alloc (.cells #[.bool sb] 4)).kept hgrow6 (rows_far (O5.out.alloc (.cells #[.bool sb] 4)) (Q5.out.alloc (.cells #[.bool sb] 4)) (by decide)))
                   have Q6 := Lib.hid hown6
                   clear hown6 hgrow6))
              go_roundw
              case rel =>
                refine ⟨k + 1, got ++ [(st, sb)], by omega, by go_num, ?_, by rw [List.length_append, hgl]; rfl, ?_, ?_, B6.out⟩
                · have h := take_next (K := KX) Hx.out HOK.out (by rw [← Hi.out, HPv.out]; exact He.out)
                  rw [← Hi.out, HPv.out] at h
                  exact h
                · have h := O6.out
                  simpa using h
                · have h := Q6.out
                  simpa using h
              case measure => simp [intOf]; omega
            · have de : (er != 0) = true := by rw [bne, beq_eq_false_iff_ne.2 he]; rfl
              have hpl : pl ≤ x.1.2.data.toList.length := by
                rcases Fs.parse_facts (kinds_ok.ok i hi6) x.1.2.data.toList with ⟨h, _⟩ | ⟨_, _, ⟨_, h⟩ | ⟨_, h⟩⟩
                · rw [HPv.out] at h; exact absurd h he
                · rw [HPv.out] at h; exact h
                · rw [HPv.out] at h; exact Nat.le_of_lt h
              have hsum : x.1.1 + pl ≤ 100000 := by
                have h1 := x.2.2
                have h2 : x.1.2.data.toList.length = x.1.2.size := by rw [Array.length_toList]; rfl
                omega
              obtain ⟨q, hq⟩ : ∃ q, x.1.1 + pl = q := ⟨_, rfl⟩
              have HR : Hid (retX (Xs.read KX (Xs.words s.data.toList) s.size) = .tuple #[exV 0 0 0 0 0 0 false false, .int .i64 q, .int .i64 er]) := Lib.hid (retX_zero (Xs.read_bad (f := 1) (by rw [← HS.out, List.length_map]; omega) (by omega) (by
                have h := take_bad (K := KX) Hx.out HOK.out (by rw [← Hi.out, HPv.out]; exact he)
                rw [← Hi.out, HPv.out, HS.out] at h
                rw [← hq]
                exact h)))
              obtain ⟨gb, rfl, hnc2, hgb, hcell2⟩ := row_cell (k := k) (u := .int .i64 x.1.1) HP.out (by rw [List.getElem?_map, Hx.out]; rfl)
              have hgb0 : bE < gb := by have := (own_at HP.out rfl).1; simp at this; omega
              obtain ⟨X, hX⟩ : ∃ X, x.1.1 = X := ⟨_, rfl⟩
              rw [hX] at hcell2 hq
              have yb : w4.cell? ⟨gb, k, none⟩ = some (.int .i64 X) := (B4.out.cell (p := ⟨gb, k, none⟩) hgb).trans hcell2
              have hs2 : (X : Int) + (pl : Int) = (q : Int) := by omega
              have hq5 : q ≤ 100000 := by omega
              have hwq : IntKind.i64.wrap (q : Int) = (q : Int) := (Go.IntWalk.i64_left _).trans (Go.IntWalk.wrap64_in _ (by omega))
              have HEz := Lib.hid (HE.out.below B4.out hEl)
              have HBz := Lib.hid (HB.out.trans (B4.out.mono HB.out.size))
              obtain ⟨ec, ef⟩ := HEz.out.facts
              clear hsum hq hpl he hcell2 hX hlen
              go_wp2_with fail
              refine wp_region_held_drew (S := fun V => V.cell? ⟨gb, k, none⟩ = some (.int .i64 X)) (by kernel_rfl) ?hs7022 (fun hHeld => ?rs7022)
              case hs7022 => exact yb
              refine wpAnyH_take (i := 0) (oi := ?oi7023) (v := ?vv7023) ?hi7023 (by kernel_rfl) (by kernel_rfl) (by kernel_rfl) ?hq7023 (Or.inl ⟨?hw7023, ?hy7023⟩) (by assumption) ?rs7023
              case hi7023 => (simp only [Hg]; rfl)
              case hq7023 => exact fun _ _ _ h => h
              case hw7023 => rfl
              case hy7023 => (intro w hSw; (try dsimp only at hSw); go_simp <;> with_reducible rfl)
              simp only [Hp]
              refine wpAnyH_take (i := 1) (oi := ?oi7024) (v := ?vv7024) ?hi7024 (by kernel_rfl) (by kernel_rfl) (by kernel_rfl) ?hq7024 (Or.inl ⟨?hw7024, ?hy7024⟩) (by assumption) ?rs7024
              case hi7024 => (simp only [Hg]; rfl)
              case hq7024 => exact fun _ _ _ h => h
              case hw7024 => rfl
              case hy7024 => (intro w hSw; (try dsimp only at hSw); go_simp <;> with_reducible rfl)
              simp only [Hp]
              refine wpAnyH_take (i := 2) (oi := ?oi7025) (v := ?vv7025) ?hi7025 (by kernel_rfl) (by kernel_rfl) (by kernel_rfl) ?hq7025 (Or.inl ⟨?hw7025, ?hy7025⟩) (by assumption) ?rs7025
              case hi7025 => (simp only [Hg]; rfl)
              case hq7025 => exact fun _ _ _ h => h
              case hw7025 => rfl
              case hy7025 => (intro w hSw; (try dsimp only at hSw); go_simp <;> with_reducible rfl)
              simp only [Hp]
              refine wpAnyH_take (i := 3) (oi := ?oi7026) (v := ?vv7026) ?hi7026 (by kernel_rfl) (by kernel_rfl) (by kernel_rfl) ?hq7026 (Or.inl ⟨?hw7026, ?hy7026⟩) (by assumption) ?rs7026
              case hi7026 => (simp only [Hg]; rfl)
              case hq7026 => exact fun _ _ _ h => h
              case hw7026 => rfl
              case hy7026 => (intro w hSw; (try dsimp only at hSw); go_simp <;> with_reducible rfl)
              simp only [Hp]
              refine wpAnyH_take (i := 4) (oi := ?oi7027) (v := ?vv7027) ?hi7027 (by kernel_rfl) (by kernel_rfl) (by kernel_rfl) ?hq7027 (Or.inl ⟨?hw7027, ?hy7027⟩) (by assumption) ?rs7027
              case hi7027 => (simp only [Hg]; rfl)
              case hq7027 => exact fun _ _ _ h => h
              case hw7027 => rfl
              case hy7027 => (intro w hSw; (try dsimp only at hSw); go_simp <;> with_reducible rfl)
              simp only [Hp]
              refine wpAnyH_take (i := 5) (oi := ?oi7028) (v := ?vv7028) ?hi7028 (by kernel_rfl) (by kernel_rfl) (by kernel_rfl) ?hq7028 (Or.inl ⟨?hw7028, ?hy7028⟩) (by assumption) ?rs7028
              case hi7028 => (simp only [Hg]; rfl)
              case hq7028 => exact fun _ _ _ h => h
              case hw7028 => rfl
              case hy7028 => (intro w hSw; (try dsimp only at hSw); go_simp <;> with_reducible rfl)
              simp only [Hp]
              refine wpAnyH_take (i := 6) (oi := ?oi7029) (v := ?vv7029) ?hi7029 (by kernel_rfl) (by kernel_rfl) (by kernel_rfl) ?hq7029 (Or.inl ⟨?hw7029, ?hy7029⟩) (by assumption) ?rs7029
              case hi7029 => (simp only [Hg]; rfl)
              case hq7029 => exact fun _ _ _ h => h
              case hw7029 => rfl
              case hy7029 => (intro w hSw; (try dsimp only at hSw); go_simp <;> with_reducible rfl)
              simp only [Hp]
              refine wpAnyH_take (i := 7) (oi := ?oi7030) (v := ?vv7030) ?hi7030 (by kernel_rfl) (by kernel_rfl) (by kernel_rfl) ?hq7030 (Or.inl ⟨?hw7030, ?hy7030⟩) (by assumption) ?rs7030
              case hi7030 => (simp only [Hg]; rfl)
              case hq7030 => exact fun _ _ _ h => h
              case hw7030 => rfl
              case hy7030 => (intro w hSw; (try dsimp only at hSw); go_simp <;> with_reducible rfl)
              simp only [Hp]
              refine wpAnyH_ready (rs := [8]) (by kernel_rfl) (by simp) (AllReadyH.cons (o := ?oi7031) ?hi7031 (fun K hK => ?rs7031) AllReadyH.nil)
              case hi7031 => (simp only [Hg]; rfl)
              clear hHeld
              go_simp
              refine hK.out _ _ ?hs7031 (fun hHeld => ?rt7031)
              case hs7031 => exact (drew_cell7 _ _).trans ((cell_far87 (show gb ≠ bE by omega) _ _ _ _ _ _ _ _).trans yb)
              clear hK K
              try simp only [Hp]
              refine wpAnyH_take (i := 9) (oi := ?oi7032) (v := ?vv7032) ?hi7032 (by kernel_rfl) (by kernel_rfl) (by kernel_rfl) ?hq7032 (Or.inl ⟨?hw7032, ?hy7032⟩) (by assumption) ?rs7032
              case hi7032 => (simp only [Hg]; rfl)
              case hq7032 => exact fun _ _ _ h => h
              case hw7032 => rfl
              case hy7032 => (intro w hSw; (try dsimp only at hSw); go_simp <;> with_reducible rfl)
              simp only [Hp]
              refine wpAnyH_take (i := 10) (oi := ?oi7033) (v := ?vv7033) ?hi7033 (by kernel_rfl) (by kernel_rfl) (by kernel_rfl) ?hq7033 (Or.inl ⟨?hw7033, ?hy7033⟩) (by assumption) ?rs7033
              case hi7033 => (simp only [Hg]; rfl)
              case hq7033 => exact fun _ _ _ h => h
              case hw7033 => rfl
              case hy7033 => (intro w hSw; (try dsimp only at hSw); go_simp <;> with_reducible rfl)
              simp only [Hp]
              refine wpAnyH_done (by kernel_rfl) ?_ _
              go_wp2_with fail
              clear ec ef
              have hEf := (HEz.out.set8 (.int .u64 0) (.int .u64 0) (.int .u64 0) (.int .u64 0) (.int .u64 0) (.int .u64 0) (.bool false) (.bool false)).drew
              have hBf := (below_set8 HBz.out l0 (.int .u64 0) (.int .u64 0) (.int .u64 0) (.int .u64 0) (.int .u64 0) (.int .u64 0) (.bool false) (.bool false)).drew
              unfold put8 at hEf hBf
              generalize World.drew _ = WZ at hEf hBf ⊢
              obtain ⟨ec, ef⟩ := hEf.facts
              exact bodyPost_ret (v := .tuple #[exV 0 0 0 0 0 0 false false, .int .i64 q, .int .i64 er]) (by simp [results, Tryz.results14, go_sem, ec, ef]) rfl ⟨by rw [HR.out], hBf⟩
          · have d8 : decide ((k : Int) < 5) = false := decide_eq_false (by omega)
            have d8' : decide (k < 5) = false := decide_eq_false (by omega)
            have hkn' : k = 5 := by omega
            subst hkn'
            have hfin : Xs.fields KX 1 (Xs.words s.data.toList) = .ok got := by
              have h := HOK.out
              rw [List.take_of_length_le (by omega), HS.out] at h
              exact h
            have HR := Lib.hid (read_made (len := s.size) (f := 1) (by rw [← HS.out, List.length_map]; omega) (by omega) hfin)
            obtain ⟨a0, a1, a2, a3, a4, a5, hG⟩ := Xs.list_six (l := ((1, false) :: got)) (by simp [hgl])
            have hRv : Xs.read KX (Xs.words s.data.toList) s.size = (⟨a0.1, a1.1, a2.1, a3.1, a4.1, a5.1, a3.2, a5.2⟩, 0, 0) := by
              rw [HR.out]
              show (Xs.made ((1, false) :: got), 0, 0) = _
              rw [hG]
              rfl
            have HRv := Lib.hid hRv
            have O : wr.ownsRow w1.heap.size 23 1 u9 6 [.int .u64 (a0.1 : Nat), .int .u64 (a1.1 : Nat), .int .u64 (a2.1 : Nat), .int .u64 (a3.1 : Nat), .int .u64 (a4.1 : Nat), .int .u64 (a5.1 : Nat)] := by
              have h := O3.out
              rw [hG] at h
              exact h
            have Q : wr.ownsRow w1.heap.size 4 1 u10 6 [.bool a0.2, .bool a1.2, .bool a2.2, .bool a3.2, .bool a4.2, .bool a5.2] := by
              have h := Q3.out
              rw [hG] at h
              exact h
            obtain ⟨Al, cl, rfl⟩ := owns_slice O
            obtain ⟨As, cs, rfl⟩ := owns_slice Q
            obtain ⟨gl, rfl, -, hgll, hl0⟩ := row_cell (k := 0) (u := .int .u64 (a0.1 : Nat)) O rfl
            obtain ⟨gq, rfl, -, hgq, hq3⟩ := row_cell (k := 3) (u := .bool a3.2) Q rfl
            have hlj : ∀ (j : Nat) (v : Value), ([.int .u64 (a0.1 : Nat), .int .u64 (a1.1 : Nat), .int .u64 (a2.1 : Nat), .int .u64 (a3.1 : Nat), .int .u64 (a4.1 : Nat), .int .u64 (a5.1 : Nat)] : List Value)[j]? = some v → wr.cell? ⟨gl, j, none⟩ = some v := fun j v hv => by
              obtain ⟨g', hg', -, -, h⟩ := row_cell (k := j) (u := v) O hv
              injection hg' with e
              injection e with e1
              rw [e1]
              exact h
            have hq5 : wr.cell? ⟨gq, 5, none⟩ = some (.bool a5.2) := by
              obtain ⟨g', hg', -, -, h⟩ := row_cell (k := 5) (u := .bool a5.2) Q rfl
              injection hg' with e
              injection e with e1
              rw [e1]
              exact h
            have hgq0 : bE < gq := by have h : w1.heap.size ≤ gq := (own_at Q rfl).1; omega
            have HM := Lib.hid (ref7_made gl cl a0.1 a1.1 a2.1 a3.1 a4.1 a5.1 a3.2 a5.2 wr.drew hgll (hlj 0 _ rfl) (hlj 1 _ rfl) (hlj 2 _ rfl) (hlj 3 _ rfl) (hlj 4 _ rfl) (hlj 5 _ rfl))
            have hgqd : gq < wr.drew.heap.size := hgq
            have hEd : bE < wr.drew.heap.size := Nat.lt_of_lt_of_le hEl B3.out.size
            have E3 := Lib.hid (HE.out.below B3.out hEl)
            have BZ := Lib.hid (HB.out.trans (B3.out.mono HB.out.size))
            generalize a0.1 = x0 at *
            generalize a1.1 = x1 at *
            generalize a2.1 = x2 at *
            generalize a3.1 = x3 at *
            generalize a4.1 = x4 at *
            generalize a5.1 = x5 at *
            generalize a3.2 = y3 at *
            generalize a5.2 = y5 at *
            clear hfin hG O Q hlj hl0 hgl hlen hRv
            go_wp2_with fail
            refine wp_region_held_drew (S := fun V => V.cell? ⟨gq, 3, none⟩ = some (.bool y3) ∧ V.cell? ⟨gq, 5, none⟩ = some (.bool y5)) (by kernel_rfl) ?hs8501 (fun hHeld => ?rs8501)
            case hs8501 => exact ⟨hq3, hq5⟩
            refine wpAnyH_take (i := 0) (oi := ?oi8502) (v := ?vv8502) ?hi8502 (by kernel_rfl) (by kernel_rfl) (by kernel_rfl) ?hq8502 (Or.inl ⟨?hw8502, ?hy8502⟩) (by assumption) ?rs8502
            case hi8502 => (simp only [Hg]; rfl)
            case hq8502 => exact fun _ _ _ h => h
            case hw8502 => rfl
            case hy8502 => (intro w hSw; (try dsimp only at hSw); go_simp <;> with_reducible rfl)
            simp only [Hp]
            refine wpAnyH_take (i := 1) (oi := ?oi8503) (v := ?vv8503) ?hi8503 (by kernel_rfl) (by kernel_rfl) (by kernel_rfl) ?hq8503 (Or.inl ⟨?hw8503, ?hy8503⟩) (by assumption) ?rs8503
            case hi8503 => (simp only [Hg]; rfl)
            case hq8503 => exact fun _ _ _ h => h
            case hw8503 => rfl
            case hy8503 => (intro w hSw; (try dsimp only at hSw); go_simp <;> with_reducible rfl)
            simp only [Hp]
            refine wpAnyH_take (i := 2) (oi := ?oi8504) (v := ?vv8504) ?hi8504 (by kernel_rfl) (by kernel_rfl) (by kernel_rfl) ?hq8504 (Or.inl ⟨?hw8504, ?hy8504⟩) (by assumption) ?rs8504
            case hi8504 => (simp only [Hg]; rfl)
            case hq8504 => exact fun _ _ _ h => h
            case hw8504 => rfl
            case hy8504 => (intro w hSw; (try dsimp only at hSw); go_simp <;> with_reducible rfl)
            simp only [Hp]
            refine wpAnyH_take (i := 3) (oi := ?oi8505) (v := ?vv8505) ?hi8505 (by kernel_rfl) (by kernel_rfl) (by kernel_rfl) ?hq8505 (Or.inl ⟨?hw8505, ?hy8505⟩) (by assumption) ?rs8505
            case hi8505 => (simp only [Hg]; rfl)
            case hq8505 => exact fun _ _ _ h => h
            case hw8505 => rfl
            case hy8505 => (intro w hSw; (try dsimp only at hSw); go_simp <;> with_reducible rfl)
            simp only [Hp]
            refine wpAnyH_take (i := 4) (oi := ?oi8506) (v := ?vv8506) ?hi8506 (by kernel_rfl) (by kernel_rfl) (by kernel_rfl) ?hq8506 (Or.inl ⟨?hw8506, ?hy8506⟩) (by assumption) ?rs8506
            case hi8506 => (simp only [Hg]; rfl)
            case hq8506 => exact fun _ _ _ h => h
            case hw8506 => rfl
            case hy8506 => (intro w hSw; (try dsimp only at hSw); go_simp <;> with_reducible rfl)
            simp only [Hp]
            refine wpAnyH_take (i := 5) (oi := ?oi8507) (v := ?vv8507) ?hi8507 (by kernel_rfl) (by kernel_rfl) (by kernel_rfl) ?hq8507 (Or.inl ⟨?hw8507, ?hy8507⟩) (by assumption) ?rs8507
            case hi8507 => (simp only [Hg]; rfl)
            case hq8507 => exact fun _ _ _ h => h
            case hw8507 => rfl
            case hy8507 => (intro w hSw; (try dsimp only at hSw); go_simp <;> with_reducible rfl)
            simp only [Hp]
            refine wpAnyH_take (i := 6) (oi := ?oi8508) (v := ?vv8508) ?hi8508 (by kernel_rfl) (by kernel_rfl) (by kernel_rfl) ?hq8508 (Or.inl ⟨?hw8508, ?hy8508⟩) (by assumption) ?rs8508
            case hi8508 => (simp only [Hg]; rfl)
            case hq8508 => exact fun _ _ _ h => h
            case hw8508 => rfl
            case hy8508 => (intro w hSw; (try dsimp only at hSw); go_simp <;> with_reducible rfl)
            simp only [Hp]
            refine wpAnyH_ready (rs := [7]) (by kernel_rfl) (by simp) (AllReadyH.cons (o := ?oi8509) ?hi8509 (fun K hK => ?rs8509) AllReadyH.nil)
            case hi8509 => (simp only [Hg]; rfl)
            go_simp
            (go_at_call 46; (with_reducible refine (HM.out).mono ?_); rintro e w3 ⟨rfl, hb3⟩; have HB3 := Lib.hid hb3; have E4 := Lib.hid (E3.out.drew.below hb3 hEd); obtain ⟨ec, ef⟩ := E4.out.facts; have q3 := (hb3.cell (p := ⟨gq, 3, none⟩) hgqd).trans hq3; have q5 := (hb3.cell (p := ⟨gq, 5, none⟩) hgqd).trans hq5)
            refine hK.out _ _ ?hs8509 (fun hHeld => ?rt8509)
            case hs8509 => exact ⟨q3, q5⟩
            clear hK K
            try simp only [Hp]
            refine wpAnyH_ready (rs := [8]) (by kernel_rfl) (by simp) (AllReadyH.cons (o := ?oi8510) ?hi8510 (fun K hK => ?rs8510) AllReadyH.nil)
            case hi8510 => (simp only [Hg]; rfl)
            clear hHeld
            go_simp
            refine hK.out _ _ ?hs8510 (fun hHeld => ?rt8510)
            case hs8510 => exact ⟨(cell_far87 (show gq ≠ bE by omega) _ _ _ _ _ _ _ _).trans q3, (cell_far87 (show gq ≠ bE by omega) _ _ _ _ _ _ _ _).trans q5⟩
            clear hK K
            try simp only [Hp]
            refine wpAnyH_take (i := 9) (oi := ?oi8511) (v := ?vv8511) ?hi8511 (by kernel_rfl) (by kernel_rfl) (by kernel_rfl) ?hq8511 (Or.inl ⟨?hw8511, ?hy8511⟩) (by assumption) ?rs8511
            case hi8511 => (simp only [Hg]; rfl)
            case hq8511 => exact fun _ _ _ h => h
            case hw8511 => rfl
            case hy8511 => (intro w hSw; (try dsimp only at hSw); go_simp <;> with_reducible rfl)
            simp only [Hp]
            refine wpAnyH_take (i := 10) (oi := ?oi8512) (v := ?vv8512) ?hi8512 (by kernel_rfl) (by kernel_rfl) (by kernel_rfl) ?hq8512 (Or.inl ⟨?hw8512, ?hy8512⟩) (by assumption) ?rs8512
            case hi8512 => (simp only [Hg]; rfl)
            case hq8512 => exact fun _ _ _ h => h
            case hw8512 => rfl
            case hy8512 => (intro w hSw; (try dsimp only at hSw); go_simp <;> with_reducible rfl)
            simp only [Hp]
            refine wpAnyH_done (by kernel_rfl) ?_ _
            go_wp2_with fail
            clear ec ef
            have hEf := E4.out.set8 (.int .u64 x0) (.int .u64 x1) (.int .u64 x2) (.int .u64 x3) (.int .u64 x4) (.int .u64 x5) (.bool y3) (.bool y5)
            have hBf := below_set8 (BZ.out.drew.trans (HB3.out.mono BZ.out.size)) l0 (.int .u64 x0) (.int .u64 x1) (.int .u64 x2) (.int .u64 x3) (.int .u64 x4) (.int .u64 x5) (.bool y3) (.bool y5)
            unfold put8 at hEf hBf
            generalize World.setCell _ _ _ = WZ at hEf hBf ⊢
            obtain ⟨ec, ef⟩ := hEf.facts
            exact bodyPost_ret (v := .tuple #[exV x0 x1 x2 x3 x4 x5 y3 y5, .int .i64 0, .int .i64 0]) (by simp [results, Tryz.results14, go_sem, ec, ef]) rfl ⟨by rw [HRv.out]; rfl, hBf⟩
end Go.Proofs.YtjnlgaeedcklaaaGreatDoor
