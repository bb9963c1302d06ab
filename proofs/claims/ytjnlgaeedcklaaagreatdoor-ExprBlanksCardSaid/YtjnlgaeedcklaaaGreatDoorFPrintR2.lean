/-
  The document's text: Full, Print, Name.
  The document's text: Print.
-/
import Derived.Test.YtjnlgaeedcklaaaGreatDoorFBack
import Derived.Test.YtjnlgaeedcklaaaGreatDoorFRunsR
import Derived.Test.YtjnlgaeedcklaaaGreatDoorFDec
import Derived.Test.YtjnlgaeedcklaaaGreatDoorFCheckR
import Derived.Test.YtjnlgaeedcklaaaGreatDoorFRef7
import Derived.ShutString
import Derived.Deep.RegionHeld3
import Derived.Deep.RegionLaw
set_option linter.unusedVariables false
set_option linter.unusedSimpArgs false
namespace Go.Proofs.YtjnlgaeedcklaaaGreatDoor
open Go.RowKit

theorem els_eq (s k : Nat) : els s k = Fs.elsOf s k := rfl

/-- What Full returns. -/
def retFull (p : Nat × Int) : Value := .tuple #[.int .u64 p.1, .int .i64 p.2]

theorem full_eq (lo hi : Nat) (l : List ByteArray) (week : Bool) (h : lo ≤ hi) : Fs.full (kind lo hi l week) = Fs.fill lo (hi + 1 - lo) := by
  unfold Fs.full
  have : ((hi : Int) - (lo : Int) + 1).toNat = hi + 1 - lo := by omega
  simp only [kind, this, Int.toNat_natCast]

theorem dig_eq : ∀ n : Nat, n < 100 → Lib.decDigits n = Fs.dig n := by decide +kernel

set_option maxHeartbeats 1000000 in
theorem ref_Full (w : World) (lo hi : Int) (A : Option Addr) (c : Nat) (l : List ByteArray) (week : Bool) (h1 : -9223372036854775808 ≤ lo) (h2 : lo ≤ 9223372036854775807) (h3 : -9223372036854775808 ≤ hi) (h4 : hi ≤ 9223372036854775807)
    (hn : l.length ≤ 1000) (hcc : l.length ≤ c) (hA : Names w w.heap.size A l) (hsz : ∀ s ∈ l, s.size ≤ 1000) :
    Calls Tryz.prog 86 #[.agg #[.int .i64 lo, .int .i64 hi, .slice A l.length c, .bool week]] w fun e w' =>
      e = .returned (retFull (Fs.fullB (kind lo hi l week))) ∧ Below w.heap.size w w' := by
  have HA := Lib.hid hA; clear hA
  have hck : ∀ W, Names W W.heap.size A l → Calls Tryz.prog 77 #[.agg #[.int .i64 lo, .int .i64 hi, .slice A l.length c, .bool week]] W fun e w' => e = .returned (.int .i64 (Fs.errOf (Fs.checkB (kind lo hi l week)))) ∧ Below W.heap.size W w' := fun W hW => ref_Check lo hi A c l week W h1 h2 h3 h4 hn hcc hW hsz
  generalize hr : Fs.fullB (kind lo hi l week) = r
  cases hb : Fs.checkB (kind lo hi l week) with
  | false =>
    rw [Fs.fullB, hb] at hr
    simp only [Bool.false_eq_true, if_false] at hr
    subst hr
    rw [hb] at hck
    have HC := Lib.hid hck; clear hck hb hsz
    go_enter Tryz.func86, Tryz.ntmps86
    go_wp2_with (first | (go_at_call 77; ((with_reducible refine (HC.out _ (HA.out.alloc _)).mono ?_)); simp only [Fs.errOf]; rintro e w1 ⟨rfl, hb1⟩))
    go_ret2
    exact ⟨rfl, ((Below.refl _ _).alloc (Nat.le_refl _) _).trans (hb1.mono (by simp))⟩
  | true =>
    rw [Fs.fullB, hb] at hr
    simp only [if_true] at hr
    subst hr
    obtain ⟨b1, b2, b3, b4, b5⟩ := check_bounds hb
    obtain ⟨lon, rfl⟩ := Int.eq_ofNat_of_zero_le b1
    obtain ⟨hin, rfl⟩ := Int.eq_ofNat_of_zero_le b4
    rw [hb] at hck
    have HC := Lib.hid hck; clear hck hsz hb
    go_enter Tryz.func86, Tryz.ntmps86
    go_wp2_with (first | (go_at_call 77; ((with_reducible refine (HC.out _ (HA.out.alloc _)).mono ?_)); simp only [Fs.errOf]; rintro e w1 ⟨rfl, hb1⟩; obtain ⟨hc1, hf1⟩ := bcell hb1))
    have hR := ref_Range1 lon hin w1 b3.2.1 b3.1
    have HR := Lib.hid hR; clear hR
    go_at_call 124
    ((with_reducible refine (HR.out).mono ?_))
    rintro e w2 ⟨rfl, rfl⟩
    go_wp2
    go_ret2
    refine ⟨?_, ((Below.refl _ _).alloc (Nat.le_refl _) _).trans (hb1.mono (by simp))⟩
    rw [full_eq lon hin _ _ (by simpa using b3.1)]
    rfl

theorem ref_decS (n : Nat) (w : World) (hn : n < 100) :
    Calls Tryz.prog 88 #[.int .i64 n] w fun e w' => e = .returned (.string ⟨(Fs.dig n).toArray⟩) ∧ Below w.heap.size w w' := by
  rw [← dig_eq n hn]; exact ref_decimal n w hn

theorem inside_iff (a b : Nat) (ha : a < 18446744073709551616) (hb : b < 18446744073709551616) : a &&& (18446744073709551615 - b) = 0 ↔ a &&& b = a := by
  have e : ∀ i, (18446744073709551615 - b).testBit i = (decide (i < 64) && !b.testBit i) := fun i => by
    have := Nat.testBit_two_pow_sub_succ (n := 64) (x := b) hb i
    rw [← this]
    congr 1
    omega
  constructor
  · intro h
    refine Fs.subset_of fun i hi => ?_
    have h1 := congrArg (·.testBit i) h
    simp only [Nat.testBit_and, e, hi, Bool.true_and, Nat.zero_testBit] at h1
    have h64 : i < 64 := by
      rcases Nat.lt_or_ge i 64 with h | h
      · exact h
      · have := Nat.testBit_lt_two_pow (Nat.lt_of_lt_of_le ha (show 18446744073709551616 ≤ 2 ^ i from Nat.pow_le_pow_right (n := 2) (by omega) h))
        rw [this] at hi; cases hi
    simpa [h64] using h1
  · intro h
    refine Fs.bits_ext fun i => ?_
    rw [Nat.testBit_and, e, Nat.zero_testBit]
    constructor
    · intro h1
      simp only [Bool.and_eq_true, decide_eq_true_eq, Bool.not_eq_true'] at h1
      have := Fs.subset_bit h i h1.1
      rw [h1.2.2] at this; cases this
    · intro h1; cases h1

theorem runs_len_le : ∀ (f : Nat) (L : List Nat), (Fs.runs f L).length ≤ f := by
  intro f
  induction f with
  | zero => intro L; simp [Fs.runs]
  | succ f ih =>
    intro L
    rcases L with _ | ⟨a, l⟩
    · simp [Fs.runs]
    · simp only [Fs.runs, List.length_cons]; have := ih ((a :: l).drop (Fs.oneRun (a :: l)).1); omega
theorem runs_len (s : Nat) : (Fs.runsOf s).length ≤ 64 := Nat.le_trans (runs_len_le _ _) (els_len s 64)

theorem runsOf_ne (s : Nat) (h : s ≠ 0) (hs : s < 18446744073709551616) : Fs.runsOf s ≠ [] := by
  refine Fs.runs_ne _ _ (Nat.le_refl _) fun he => h (Fs.bits_ext fun i => ?_)
  rw [Nat.zero_testBit]
  constructor
  · intro hi
    have h64 : i < 64 := by
      rcases Nat.lt_or_ge i 64 with h | h
      · exact h
      · have := Nat.testBit_lt_two_pow (Nat.lt_of_lt_of_le hs (show 18446744073709551616 ≤ 2 ^ i from Nat.pow_le_pow_right (n := 2) (by omega) h))
        rw [this] at hi; cases hi
    have := Fs.elsOf_mem.2 ⟨h64, hi⟩
    rw [he] at this
    cases this
  · intro hi; cases hi

/-- What Print returns. -/
def retPrint (p : List UInt8 × Int) : Value := .tuple #[.string ⟨p.1.toArray⟩, .int .i64 p.2]

end Go.Proofs.YtjnlgaeedcklaaaGreatDoor

namespace Go.Proofs.YtjnlgaeedcklaaaGreatDoor
open Go.RowKit

theorem joinB_snoc (l : List (List UInt8)) (t : List UInt8) (h : l ≠ []) : Fs.joinB (l ++ [t]) = Fs.joinB l ++ 44 :: t := by
  induction l with
  | nil => exact absurd rfl h
  | cons a l ih =>
    by_cases hl : l = []
    · subst hl; rfl
    · rw [List.cons_append, Fs.joinB_cons _ _ (by simp), ih hl, Fs.joinB_cons _ _ hl]
      simp

theorem bcellD {W w1 : World} {n : Nat} (hb : Below W.heap.size (W.drewN n) w1) : (∀ b o, b < W.heap.size → w1.cell? ⟨b, o, none⟩ = W.cell? ⟨b, o, none⟩) ∧ (∀ b o, b < W.heap.size → w1.frozen? ⟨b, o, none⟩ = W.frozen? ⟨b, o, none⟩) :=
  ⟨fun b o h => hb.cell (p := ⟨b, o, none⟩) h, fun b o h => hb.frozen (p := ⟨b, o, none⟩) h⟩

/-- The text of the first n ranges. -/
def joinN (rs : List (Nat × Nat × Nat)) (n : Nat) : List UInt8 := Fs.joinB ((rs.take n).map Fs.runText)

theorem joinN_zero (rs : List (Nat × Nat × Nat)) : joinN rs 0 = [] := rfl
theorem joinN_one (rs : List (Nat × Nat × Nat)) (h : 0 < rs.length) : joinN rs 1 = Fs.runText rs[0] := by
  rcases rs with _ | ⟨r, rs⟩
  · simp at h
  · rfl
theorem joinN_succ (rs : List (Nat × Nat × Nat)) (n : Nat) (h : n < rs.length) (hn : 0 < n) : joinN rs (n + 1) = joinN rs n ++ 44 :: Fs.runText rs[n] := by
  unfold joinN
  rw [List.take_succ_eq_append_getElem h, List.map_append, List.map_cons, List.map_nil, joinB_snoc]
  intro he
  have := congrArg List.length he
  simp only [List.length_map, List.length_take, List.length_nil] at this
  omega
theorem joinN_all (rs : List (Nat × Nat × Nat)) : joinN rs rs.length = Fs.joinB (rs.map Fs.runText) := by unfold joinN; rw [List.take_length]

theorem dig_len2 (n : Nat) : (Fs.dig n).length ≤ 2 := by unfold Fs.dig; split <;> simp
theorem runText_len (r : Nat × Nat × Nat) : (Fs.runText r).length ≤ 8 := by
  have h1 := dig_len2 r.1
  have h2 := dig_len2 r.2.1
  have h3 := dig_len2 r.2.2
  unfold Fs.runText
  simp only [List.length_append]
  split <;> split <;> simp only [List.length_nil, List.length_cons] <;> omega
theorem joinN_len (rs : List (Nat × Nat × Nat)) : ∀ n, n ≤ rs.length → (joinN rs n).length ≤ 9 * n := by
  intro n
  induction n with
  | zero => intro _; simp [joinN_zero]
  | succ n ih =>
    intro h
    have h1 := ih (by omega)
    have h2 := runText_len rs[n]
    rcases Nat.eq_zero_or_pos n with rfl | hn
    · rw [joinN_one rs (by omega)]; omega
    · rw [joinN_succ rs n (by omega) hn, List.length_append, List.length_cons]; omega

/-- The state of the loop over the ranges. -/
def PrL (rs : List (Nat × Nat × Nat)) (w : World) (g : Nat) (out i : Value) (wr : World) : Prop :=
  ∃ n : Nat, n ≤ rs.length ∧ i = .int .i64 n ∧ out = .string ⟨(joinN rs n).toArray⟩ ∧ Below w.heap.size w wr ∧ (∀ j u, (rs.flatMap runCells)[j]? = some u → wr.cell? ⟨g, j, none⟩ = some u) ∧ g < wr.heap.size

theorem flat3_get (xs : List (Nat × Nat × Nat)) (n : Nat) (h : n < xs.length) : ∀ j, j < 3 → (xs.flatMap runCells)[n * 3 + j]? = (runCells xs[n])[j]? := by
  induction xs generalizing n with
  | nil => simp at h
  | cons x xs ih =>
    intro j hj
    rcases n with _ | n
    · rw [List.flatMap_cons, List.getElem?_append_left (by simp [runCells]; omega)]; simp
    · rw [List.flatMap_cons, List.getElem?_append_right (by simp [runCells]; omega)]
      have := ih n (by simpa using h) j hj
      simp only [List.getElem_cons_succ]
      rw [← this]
      congr 1
      simp [runCells]; omega

set_option maxRecDepth 100000 in
set_option maxHeartbeats 2000000 in
theorem ref_Print (w : World) (lo hi : Int) (A : Option Addr) (c : Nat) (l : List ByteArray) (week : Bool) (s : Nat) (star : Bool) (h1 : -9223372036854775808 ≤ lo) (h2 : lo ≤ 9223372036854775807) (h3 : -9223372036854775808 ≤ hi) (h4 : hi ≤ 9223372036854775807)
    (hn : l.length ≤ 1000) (hcc : l.length ≤ c) (hA : Names w w.heap.size A l) (hsz : ∀ s ∈ l, s.size ≤ 1000) (hs : s < 18446744073709551616) :
    Calls Tryz.prog 53 #[.agg #[.int .i64 lo, .int .i64 hi, .slice A l.length c, .bool week], .int .u64 s, .bool star] w fun e w' =>
      e = .returned (retPrint (Fs.printB (kind lo hi l week) s star)) ∧ Below w.heap.size w w' := by
  have HA := Lib.hid hA; clear hA
  have hfu : ∀ W, Names W W.heap.size A l → Calls Tryz.prog 86 #[.agg #[.int .i64 lo, .int .i64 hi, .slice A l.length c, .bool week]] W fun e w' => e = .returned (retFull (Fs.fullB (kind lo hi l week))) ∧ Below W.heap.size W w' := fun W hW => ref_Full W lo hi A c l week h1 h2 h3 h4 hn hcc hW hsz
  generalize hr : Fs.printB (kind lo hi l week) s star = r
  cases hb : Fs.checkB (kind lo hi l week) with
  | false =>
    have e1 : r = ([], 2) := by rw [← hr, Fs.printB, hb]; simp
    subst e1
    simp only [Fs.fullB, hb, retFull, Bool.false_eq_true, if_false] at hfu
    have HF := Lib.hid hfu; clear hfu hsz hb hr
    go_enter Tryz.func53, Tryz.ntmps53
    go_wp2_with (first | (go_at_call 86; ((with_reducible refine (HF.out _ (HA.out.alloc _)).mono ?_)); rintro e w1 ⟨rfl, hb1⟩))
    go_ret2
    exact ⟨rfl, ((Below.refl _ _).alloc (Nat.le_refl _) _).trans (hb1.mono (by simp))⟩
  | true =>
    have hfl : Fs.full (kind lo hi l week) < 18446744073709551616 := by
      obtain ⟨b1, b2, b3, b4, b5⟩ := check_bounds hb
      obtain ⟨lon, rfl⟩ := Int.eq_ofNat_of_zero_le b1
      obtain ⟨hin, rfl⟩ := Int.eq_ofNat_of_zero_le b4
      rw [full_eq lon hin _ _ (by simpa using b3.1)]
      exact fill_lt _ _ (by have := b3.1; have := b3.2.1; simp at *; omega)
    simp only [Fs.fullB, hb, retFull, if_true] at hfu
    have hin := inside_iff s (Fs.full (kind lo hi l week)) hs hfl
    have hbit := u64_andNot_nat s (Fs.full (kind lo hi l week)) hs hfl
    have hpr : r = if s = 0 ∨ s &&& Fs.full (kind lo hi l week) ≠ s ∨ (star = true ∧ s ≠ Fs.full (kind lo hi l week)) then ([], 2) else if star then ([42], 0) else (Fs.joinB ((Fs.runsOf s).map Fs.runText), 0) := by
      rw [← hr, Fs.printB, hb]; simp
    generalize Fs.full (kind lo hi l week) = fu at hfu hfl hin hbit hpr
    have HF := Lib.hid hfu
    have Hin := Lib.hid hin
    have Hbit := Lib.hid hbit
    have Hpr := Lib.hid hpr
    clear hfu hsz hb hr hin hbit hpr
    by_cases hs0 : s = 0
    · have e1 := Hpr.out
      rw [if_pos (.inl hs0)] at e1
      subst e1
      have hb0 : ((s : Int) == 0) = true := by rw [beq_iff_eq]; omega
      clear hs0
      go_enter Tryz.func53, Tryz.ntmps53
      go_wp2_with (first | (go_at_call 86; ((with_reducible refine (HF.out _ (HA.out.alloc _)).mono ?_)); rintro e w1 ⟨rfl, hb1⟩))
      go_ret2
      exact ⟨rfl, ((Below.refl _ _).alloc (Nat.le_refl _) _).trans (hb1.mono (by simp))⟩
    · have hb0 : ((s : Int) == 0) = false := by rw [beq_eq_false_iff_ne]; omega
      by_cases hsub : s &&& fu = s
      · have hx : ((bits .andNot .u64 (s : Int) (fu : Int)) != 0) = false := by
          rw [Hbit.out, Hin.out.2 hsub]; rfl
        cases star with
        | true =>
          by_cases hsf : s = fu
          · have e1 := Hpr.out
            rw [if_neg (by rintro (h | h | h); exact hs0 h; exact h hsub; exact h.2 hsf), if_pos rfl] at e1
            subst e1
            have hy : ((s : Int) != (fu : Int)) = false := by rw [hsf]; simp
            clear hs0 hsub hsf
            go_enter Tryz.func53, Tryz.ntmps53
            go_wp2_with (first | (go_at_call 86; ((with_reducible refine (HF.out _ (HA.out.alloc _)).mono ?_)); rintro e w1 ⟨rfl, hb1⟩))
            go_ret2
            exact ⟨rfl, ((Below.refl _ _).alloc (Nat.le_refl _) _).trans (hb1.mono (by simp))⟩
          · have e1 := Hpr.out
            rw [if_pos (.inr (.inr ⟨rfl, hsf⟩))] at e1
            subst e1
            have hy : ((s : Int) != (fu : Int)) = true := by rw [bne_iff_ne]; omega
            clear hs0 hsub hsf
            go_enter Tryz.func53, Tryz.ntmps53
            go_wp2_with (first | (go_at_call 86; ((with_reducible refine (HF.out _ (HA.out.alloc _)).mono ?_)); rintro e w1 ⟨rfl, hb1⟩))
            go_ret2
            exact ⟨rfl, ((Below.refl _ _).alloc (Nat.le_refl _) _).trans (hb1.mono (by simp))⟩
        | false =>
          have e1 := Hpr.out
          rw [if_neg (by rintro (h | h | h); exact hs0 h; exact h hsub; cases h.1), if_neg (by simp)] at e1
          subst e1
          have hRu : ∀ W, Calls Tryz.prog 87 #[.int .u64 s] W fun e w' => ∃ v, e = .returned v ∧ w'.ownsRow W.heap.size 154 3 v (Fs.runsOf s).length ((Fs.runsOf s).flatMap runCells) ∧ Below W.heap.size W w' := fun W => ref_Runs s W hs
          have hok := (Fs.runs_ok (Fs.elsOf s 64).length (Fs.elsOf s 64) (Nat.le_refl _) (Fs.elsOf_sorted s 64)).1
          have hel : ∀ x ∈ Fs.elsOf s 64, x < 64 := fun x h => (Fs.elsOf_mem.1 h).1
          have hrs : Fs.runsOf s = Fs.runs (Fs.elsOf s 64).length (Fs.elsOf s 64) := rfl
          rw [← hrs] at hok
          have hlen64 : (Fs.runsOf s).length ≤ 64 := runs_len s
          have hne0 : Fs.runsOf s ≠ [] := runsOf_ne s hs0 hs
          generalize Fs.runsOf s = rs at *
          have HRu := Lib.hid hRu
          have Hok := Lib.hid hok
          have Hne := Lib.hid hne0
          have Hel := Lib.hid hel
          clear hs0 hsub hRu hok hel hrs hne0
          go_enter Tryz.func53, Tryz.ntmps53
          go_wp2_with (first
            | (go_at_call 86; ((with_reducible refine (HF.out _ (HA.out.alloc _)).mono ?_)); rintro e w1 ⟨rfl, hb1⟩)
            | (go_at_call 87; ((with_reducible refine (HRu.out _).mono ?_)); rintro e w2 ⟨v, rfl, hown, hb2⟩))
          have hpos : 0 < rs.length := Nat.pos_of_ne_zero (fun h => Hne.out (List.length_eq_zero_iff.1 h))
          obtain ⟨g, cap, rfl, hg1, hg2⟩ := hown.form hpos
          have Hcells := Lib.hid (hown.cells (g := g) rfl)
          have Hcl : Hid (∀ j u, (rs.flatMap runCells)[j]? = some u → w2.cell? ⟨g, j, none⟩ = some u) := Lib.hid (by
            intro j u hj
            have := Hcells.out j u hj
            rcases j with _ | j
            · simpa [Addr.add] using this
            · simpa [Addr.add] using this)
          have Hbw : Hid (Below w.heap.size w w2) := Lib.hid ((((Below.refl _ _).alloc (Nat.le_refl _) _).trans (hb1.mono (by simp))).trans (hb2.mono (by have := hb1.size; simp at this; omega)))
          clear hown hb1 hb2 Hcells
          go_loopw [10, 12] (fun out i wr => PrL rs w g out i wr) (fun _ i _ => rs.length - (intOf i).toNat)
          case atStart => exact ⟨0, by omega, rfl, rfl, Hbw.out, Hcl.out, hg2⟩
          case round =>
            obtain ⟨n, hnl, rfl, rfl, hbw, hcs, hg⟩ := hrel
            have Hbwr := Lib.hid hbw
            have Hcs := Lib.hid hcs
            have hjl := joinN_len rs n hnl
            clear hbw hcs
            by_cases hlt : n < rs.length
            · have hgt := flat3_get rs n hlt
              have hro := Hok.out rs[n] (List.getElem_mem hlt)
              have hj0 := joinN_one rs hpos
              have hj1 := fun h => joinN_succ rs n hlt h
              have hj0' : n = 0 → joinN rs (n + 1) = Fs.runText rs[n] := by rintro rfl; exact hj0
              generalize rs[n] = r at hgt hro hj1 hj0'
              obtain ⟨a, b, st⟩ := r
              obtain ⟨r1, r2, r3, r4, r5⟩ := hro
              have ha := Hel.out a r1
              have hbb := Hel.out b r2
              simp only at r3 r4 r5
              have hq : ∀ j u, j < 3 → (runCells (a, b, st))[j]? = some u → wr.cell? ⟨g, n * 3 + j, none⟩ = some u := fun j u hj hu => Hcs.out _ _ ((hgt j hj).trans hu)
              have q0 : wr.cell? ⟨g, n * 3, none⟩ = some (.int .i64 a) := hq 0 _ (by omega) rfl
              have q1 : wr.cell? ⟨g, n * 3 + 1, none⟩ = some (.int .i64 b) := hq 1 _ (by omega) rfl
              have q2 : wr.cell? ⟨g, n * 3 + 2, none⟩ = some (.int .i64 st) := hq 2 _ (by omega) rfl
              have Hj1 := Lib.hid hj1
              have Hj0 := Lib.hid hj0'
              have Da := Lib.hid (fun W => ref_decS a W (by omega))
              have Db := Lib.hid (fun W => ref_decS b W (by omega))
              have Ds := Lib.hid (fun W => ref_decS st W (by omega))
              have la := dig_len2 a
              have lb := dig_len2 b
              have ls := dig_len2 st
              clear hq hgt hj1 hj0 hj0' r1 r2
              obtain ⟨J, hJ⟩ : ∃ J, joinN rs n = J := ⟨_, rfl⟩
              rw [hJ] at hjl Hj1 ⊢
              have HJ := Lib.hid hJ; clear hJ
              have Hle : Hid (w.heap.size ≤ wr.heap.size) := Lib.hid Hbwr.out.size
              rcases r4 with ⟨r4, r6⟩ | r4
              · subst r4 r6
                have hx1 : ((a : Int) != (a : Int)) = false := by simp
                have hx2 : ((1 : Int) != 1) = false := rfl
                clear hx2 hx1
                rcases Nat.eq_zero_or_pos n with hn0 | hn0
                · have HN0 := Lib.hid hn0
                  have HJ0 : Hid (J = []) := Lib.hid (by rw [← HJ.out, hn0]; rfl)
                  have hnt : n ≤ 0 := by omega
                  clear hn0
                  go_wp2_with (first | (go_at_call 88; ((with_reducible refine (Da.out _).mono ?_)); rintro e w3 ⟨rfl, hb3⟩; obtain ⟨hc3, hf3⟩ := bcell hb3; have hg3 : g < w3.heap.size := Nat.lt_of_lt_of_le hg hb3.size))
                  go_quiet (fail)
                  go_wp2_with fail
                  go_roundw
                  case rel => exact ⟨n + 1, by omega, by go_num, congrArg Value.string (bytes_ext (by rw [Hj0.out HN0.out]; simp [Fs.runText, HJ0.out])), below_drewN (Hbwr.out.trans (hb3.mono Hle.out)) _, fun j u hj => ((hb3.cell (p := ⟨g, j, none⟩) hg).trans (Hcs.out j u hj)), hg3⟩
                  case measure => simp [intOf]; omega
                · have HNp := Lib.hid hn0
                  skip
                  go_wp2_with (first | (go_at_call 88; ((with_reducible refine (Da.out _).mono ?_)); rintro e w3 ⟨rfl, hb3⟩; obtain ⟨hc3, hf3⟩ := bcell hb3; have hg3 : g < w3.heap.size := Nat.lt_of_lt_of_le hg hb3.size))
                  go_quiet (fail)
                  go_wp2_with fail
                  go_roundw
                  case rel => exact ⟨n + 1, by omega, by go_num, congrArg Value.string (bytes_ext (by rw [Hj1.out HNp.out]; simp [Fs.runText, ])), below_drewN (Hbwr.out.trans (hb3.mono Hle.out)) _, fun j u hj => ((hb3.cell (p := ⟨g, j, none⟩) hg).trans (Hcs.out j u hj)), hg3⟩
                  case measure => simp [intOf]; omega
              · have hx1 : ((a : Int) != (b : Int)) = true := by rw [bne_iff_ne]; omega
                have hab0 : Hid (¬ a = b) := Lib.hid (by omega)
                by_cases hst1 : st = 1
                · subst hst1
                  rcases Nat.eq_zero_or_pos n with hn0 | hn0
                  · have HN0 := Lib.hid hn0
                    have HJ0 : Hid (J = []) := Lib.hid (by rw [← HJ.out, hn0]; rfl)
                    have hnt : n ≤ 0 := by omega
                    clear hn0
                    go_wp2_with (first | (go_at_call 88; ((with_reducible refine (Da.out _).mono ?_)); rintro e w3 ⟨rfl, hb3⟩; obtain ⟨hc3, hf3⟩ := bcell hb3; have hg3 : g < w3.heap.size := Nat.lt_of_lt_of_le hg hb3.size))
                    go_quiet (fail)
                    go_wp2_with (first | (go_at_call 88; ((with_reducible refine (Db.out _).mono ?_)); rintro e w4 ⟨rfl, hb4⟩; obtain ⟨hc4, hf4⟩ := bcellD (W := w3) hb4; have hg4 : g < w4.heap.size := Nat.lt_of_lt_of_le hg3 hb4.size))
                    go_roundw
                    case rel => exact ⟨n + 1, by omega, by go_num, congrArg Value.string (bytes_ext (by rw [Hj0.out HN0.out]; simp [Fs.runText, hab0.out, HJ0.out])), (below_drewN (Hbwr.out.trans (hb3.mono Hle.out)) _).trans (hb4.mono (Nat.le_trans Hle.out hb3.size)), fun j u hj => ((hb4.cell (p := ⟨g, j, none⟩) hg3).trans ((hb3.cell (p := ⟨g, j, none⟩) hg).trans (Hcs.out j u hj))), hg4⟩
                    case measure => simp [intOf]; omega
                  · have HNp := Lib.hid hn0
                    skip
                    go_wp2_with (first | (go_at_call 88; ((with_reducible refine (Da.out _).mono ?_)); rintro e w3 ⟨rfl, hb3⟩; obtain ⟨hc3, hf3⟩ := bcell hb3; have hg3 : g < w3.heap.size := Nat.lt_of_lt_of_le hg hb3.size))
                    go_quiet (fail)
                    go_wp2_with (first | (go_at_call 88; ((with_reducible refine (Db.out _).mono ?_)); rintro e w4 ⟨rfl, hb4⟩; obtain ⟨hc4, hf4⟩ := bcellD (W := w3) hb4; have hg4 : g < w4.heap.size := Nat.lt_of_lt_of_le hg3 hb4.size))
                    go_roundw
                    case rel => exact ⟨n + 1, by omega, by go_num, congrArg Value.string (bytes_ext (by rw [Hj1.out HNp.out]; simp [Fs.runText, hab0.out, ])), (below_drewN (Hbwr.out.trans (hb3.mono Hle.out)) _).trans (hb4.mono (Nat.le_trans Hle.out hb3.size)), fun j u hj => ((hb4.cell (p := ⟨g, j, none⟩) hg3).trans ((hb3.cell (p := ⟨g, j, none⟩) hg).trans (Hcs.out j u hj))), hg4⟩
                    case measure => simp [intOf]; omega
                · have hx2 : ((st : Int) != 1) = true := by rw [bne_iff_ne]; omega
                  have hst0 : Hid (¬ st = 1) := Lib.hid hst1
                  clear hst1
                  rcases Nat.eq_zero_or_pos n with hn0 | hn0
                  · have HN0 := Lib.hid hn0
                    have HJ0 : Hid (J = []) := Lib.hid (by rw [← HJ.out, hn0]; rfl)
                    have hnt : n ≤ 0 := by omega
                    clear hn0
                    go_wp2_with (first | (go_at_call 88; ((with_reducible refine (Da.out _).mono ?_)); rintro e w3 ⟨rfl, hb3⟩; obtain ⟨hc3, hf3⟩ := bcell hb3; have hg3 : g < w3.heap.size := Nat.lt_of_lt_of_le hg hb3.size))
                    go_quiet (fail)
                    go_wp2_with (first | (go_at_call 88; ((with_reducible refine (Db.out _).mono ?_)); rintro e w4 ⟨rfl, hb4⟩; obtain ⟨hc4, hf4⟩ := bcellD (W := w3) hb4; have hg4 : g < w4.heap.size := Nat.lt_of_lt_of_le hg3 hb4.size) | (go_at_call 88; ((with_reducible refine (Ds.out _).mono ?_)); rintro e w5 ⟨rfl, hb5⟩; obtain ⟨hc5, hf5⟩ := bcell hb5; have hg5 : g < w5.heap.size := Nat.lt_of_lt_of_le hg4 hb5.size))
                    go_roundw
                    case rel => exact ⟨n + 1, by omega, by go_num, congrArg Value.string (bytes_ext (by rw [Hj0.out HN0.out]; simp [Fs.runText, hab0.out, hst0.out, HJ0.out])), ((below_drewN (Hbwr.out.trans (hb3.mono Hle.out)) _).trans (hb4.mono (Nat.le_trans Hle.out hb3.size))).trans (hb5.mono (Nat.le_trans (Nat.le_trans Hle.out hb3.size) hb4.size)), fun j u hj => ((hb5.cell (p := ⟨g, j, none⟩) hg4).trans ((hb4.cell (p := ⟨g, j, none⟩) hg3).trans ((hb3.cell (p := ⟨g, j, none⟩) hg).trans (Hcs.out j u hj)))), hg5⟩
                    case measure => simp [intOf]; omega
                  · have HNp := Lib.hid hn0
                    skip
                    go_wp2_with (first | (go_at_call 88; ((with_reducible refine (Da.out _).mono ?_)); rintro e w3 ⟨rfl, hb3⟩; obtain ⟨hc3, hf3⟩ := bcell hb3; have hg3 : g < w3.heap.size := Nat.lt_of_lt_of_le hg hb3.size))
                    go_quiet (fail)
                    go_wp2_with (first | (go_at_call 88; ((with_reducible refine (Db.out _).mono ?_)); rintro e w4 ⟨rfl, hb4⟩; obtain ⟨hc4, hf4⟩ := bcellD (W := w3) hb4; have hg4 : g < w4.heap.size := Nat.lt_of_lt_of_le hg3 hb4.size) | (go_at_call 88; ((with_reducible refine (Ds.out _).mono ?_)); rintro e w5 ⟨rfl, hb5⟩; obtain ⟨hc5, hf5⟩ := bcell hb5; have hg5 : g < w5.heap.size := Nat.lt_of_lt_of_le hg4 hb5.size))
                    go_roundw
                    case rel => exact ⟨n + 1, by omega, by go_num, congrArg Value.string (bytes_ext (by rw [Hj1.out HNp.out]; simp [Fs.runText, hab0.out, hst0.out, ])), ((below_drewN (Hbwr.out.trans (hb3.mono Hle.out)) _).trans (hb4.mono (Nat.le_trans Hle.out hb3.size))).trans (hb5.mono (Nat.le_trans (Nat.le_trans Hle.out hb3.size) hb4.size)), fun j u hj => ((hb5.cell (p := ⟨g, j, none⟩) hg4).trans ((hb4.cell (p := ⟨g, j, none⟩) hg3).trans ((hb3.cell (p := ⟨g, j, none⟩) hg).trans (Hcs.out j u hj)))), hg5⟩
                    case measure => simp [intOf]; omega
            · obtain rfl : n = rs.length := by omega
              go_wp2_with fail
              go_ret2
              refine ⟨?_, Hbwr.out⟩
              rw [joinN_all]; rfl
      · have e1 := Hpr.out
        rw [if_pos (.inr (.inl hsub))] at e1
        subst e1
        have hx : ((bits .andNot .u64 (s : Int) (fu : Int)) != 0) = true := by
          rw [Hbit.out, bne_iff_ne]
          intro h0
          exact hsub (Hin.out.1 (by omega))
        clear hs0 hsub
        go_enter Tryz.func53, Tryz.ntmps53
        go_wp2_with (first | (go_at_call 86; ((with_reducible refine (HF.out _ (HA.out.alloc _)).mono ?_)); rintro e w1 ⟨rfl, hb1⟩))
        go_ret2
        exact ⟨rfl, ((Below.refl _ _).alloc (Nat.le_refl _) _).trans (hb1.mono (by simp))⟩

end Go.Proofs.YtjnlgaeedcklaaaGreatDoor
