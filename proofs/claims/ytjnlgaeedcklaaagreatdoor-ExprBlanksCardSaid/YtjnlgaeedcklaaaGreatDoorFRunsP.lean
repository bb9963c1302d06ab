/-
  The program's text: a set as few ranges with steps.
-/
import Derived.Test.YtjnlgaeedcklaaaGreatDoorFNext
import Derived.Test.YtjnlgaeedcklaaaGreatDoorFRunsR
import Derived.BigRegion
import Derived.StillTailTactics
set_option linter.unusedVariables false
set_option linter.unusedSimpArgs false
namespace Go.Proofs.YtjnlgaeedcklaaaGreatDoor
open Go.RowKit

def goesB (s v st : Nat) : Bool := nextOf s (v + 1) == some (v + st)

set_option maxHeartbeats 1000000 in
theorem bits_goes (v st s b1 b2 : Nat) (w : World) (hs : s < 18446744073709551616) (hv : v < 900) (hst : st < 900) (hT : Tabs w) (c1 : w.cell? ⟨b1, 0, none⟩ = some (.int .u64 s)) (c2 : w.cell? ⟨b2, 0, none⟩ = some (.int .i64 st)) :
    Calls Tryz.prog 122 #[.int .i64 v, .pointer (some ⟨b1, 0, none⟩), .pointer (some ⟨b2, 0, none⟩)] w fun e w' => e = .returned (.bool (goesB s v st)) ∧ w = w' := by
  have hN := bits_Next s (v + 1) w hs (by omega) hT
  rw [show ((v + 1 : Nat) : Int) = (v : Int) + 1 from by omega] at hN
  unfold goesB
  have hx64 : ∀ x, nextOf s (v + 1) = some x → x < 64 := fun x h => (nextOf_some.1 h).2.2.1
  generalize nextOf s (v + 1) = r at hN hx64
  cases r with
  | none =>
    have HN := Lib.hid hN
    clear hN hT hx64
    go_enter Tryz.func122, Tryz.ntmps122
    go_wp2_with (go_at_call 121; ((with_reducible refine (HN.out).mono ?_)); simp only [retNext]; rintro e w1 ⟨rfl, rfl⟩)
    go_ret
    exact ⟨rfl, rfl⟩
  | some x =>
    have HN := Lib.hid hN
    have h64 := hx64 x rfl
    clear hN hT hx64
    go_enter Tryz.func122, Tryz.ntmps122
    go_wp2_with (go_at_call 121; ((with_reducible refine (HN.out).mono ?_)); simp only [retNext]; rintro e w1 ⟨rfl, rfl⟩)
    go_ret
    refine ⟨ret_bool ?_, rfl⟩
    rw [Bool.eq_iff_iff, beq_iff_eq, beq_iff_eq, Option.some.injEq]
    omega

/-- A number taken out of a set. -/
def clr (s a : Nat) : Nat := s &&& (18446744073709551615 - 2 ^ a)

theorem clr_bits (s a : Nat) (hs : s < 18446744073709551616) (ha : a < 64) : bits .andNot .u64 (s : Int) (IntKind.u64.wrap (2 ^ a)) = (clr s a : Nat) := by
  have h := pow_lt ha
  have e : IntKind.u64.wrap ((2 : Int) ^ a) = ((2 ^ a : Nat) : Int) := by
    rw [IntKind.wrap_u64]
    have : ((2 : Int) ^ a) = ((2 ^ a : Nat) : Int) := by simp
    rw [this]; generalize (2 : Nat) ^ a = p at h ⊢; omega
  rw [e, u64_andNot_nat s _ hs h]; rfl

theorem clr_lt (s a : Nat) (hs : s < 18446744073709551616) : clr s a < 18446744073709551616 := Nat.lt_of_le_of_lt Nat.and_le_left hs
theorem clr_bit (s a : Nat) (ha : a < 64) (i : Nat) (hi : i < 64) : (clr s a).testBit i = (s.testBit i && decide (i ≠ a)) := by
  have h := pow_lt ha
  have e : (18446744073709551615 - 2 ^ a).testBit i = (decide (i < 64) && !(2 ^ a).testBit i) := by
    have := Nat.testBit_two_pow_sub_succ (n := 64) (x := 2 ^ a) h i
    rw [← this]
    congr 1
    omega
  rw [clr, Nat.testBit_and, e, Nat.testBit_two_pow]
  by_cases h : i = a
  · subst h; simp
  · have h2 : ¬ a = i := fun e => h e.symm
    simp [hi, h, h2]

theorem els_clr (s a : Nat) (ha : a < 64) : Fs.elsOf (clr s a) 64 = (Fs.elsOf s 64).filter (fun i => decide (i ≠ a)) := by
  unfold Fs.elsOf
  rw [List.filter_filter]
  refine List.filter_congr fun i hi => ?_
  rw [clr_bit s a ha i (List.mem_range.1 hi), Bool.and_comm]

/-- The smallest number taken out. -/
theorem els_head {s a : Nat} {l : List Nat} (h : Fs.elsOf s 64 = a :: l) : a < 64 ∧ Fs.elsOf (clr s a) 64 = l ∧ (∀ x ∈ l, a < x) := by
  have ha : a < 64 := (Fs.elsOf_mem.1 (h ▸ List.mem_cons_self : a ∈ Fs.elsOf s 64)).1
  have hs := Fs.elsOf_sorted s 64
  rw [h] at hs
  have hl := (List.pairwise_cons.1 hs).1
  refine ⟨ha, ?_, hl⟩
  rw [els_clr s a ha, h, List.filter_cons]
  simp only [ne_eq, not_true_eq_false, decide_false, Bool.false_eq_true, if_false]
  rw [List.filter_eq_self]
  intro x hx
  have := hl x hx
  exact decide_eq_true (by omega)

theorem ctz_head {s a : Nat} {l : List Nat} (hs : s < 18446744073709551616) (h : Fs.elsOf s 64 = a :: l) : Lib.ctz 64 s = a ∧ s ≠ 0 := by
  have hm : a ∈ Fs.elsOf s 64 := h ▸ List.mem_cons_self
  obtain ⟨h1, h2⟩ := Fs.elsOf_mem.1 hm
  have h0 : s ≠ 0 := by rintro rfl; simp at h2
  refine ⟨?_, h0⟩
  obtain ⟨c1, c2, c3⟩ := ctz_bits s h0 hs
  have hc : Lib.ctz 64 s ∈ a :: l := h ▸ Fs.elsOf_mem.2 ⟨c2, c1⟩
  have hs := Fs.elsOf_sorted s 64
  rw [h] at hs
  rcases Nat.lt_trichotomy (Lib.ctz 64 s) a with hlt | heq | hgt
  · rcases List.mem_cons.1 hc with hc | hc
    · exact hc
    · have := (List.pairwise_cons.1 hs).1 _ hc; omega
  · exact heq
  · have := c3 a hgt; rw [h2] at this; cases this

theorem els_nil {s : Nat} (hs : s < 18446744073709551616) : Fs.elsOf s 64 = [] ↔ s = 0 := by
  constructor
  · intro h
    rcases Nat.eq_zero_or_pos s with h0 | h0
    · exact h0
    · obtain ⟨c1, c2, _⟩ := ctz_bits s (by omega) hs
      have := Fs.elsOf_mem.2 ⟨c2, c1⟩
      rw [h] at this; cases this
  · rintro rfl; simp [Fs.elsOf]

/-- The next number behind the j-th one. -/
theorem nextOf_at {s : Nat} {M : List Nat} (h : Fs.elsOf s 64 = M) (f j : Nat) (h1 : ∀ i x, i < j → M[i]? = some x → x < f) (h2 : ∀ x, M[j]? = some x → f ≤ x) : nextOf s f = M[j]? := by
  unfold nextOf
  rw [h]
  clear h
  induction M generalizing j with
  | nil => rfl
  | cons m M ih =>
    rcases j with _ | j
    · have := h2 m rfl
      simp [List.find?_cons, this]
    · have := h1 0 m (by omega) rfl
      rw [List.find?_cons_of_neg (by simp; omega), List.getElem?_cons_succ]
      exact ih j (fun i x hi hx => h1 (i + 1) x (by omega) (by simpa using hx)) (fun x hx => h2 x (by simpa using hx))

/-- The state of the outer loop. -/
def RunsP (L : List Nat) (w : World) (out : Value) (wr : World) : Prop :=
  ∃ (S : Nat) (rest : List Nat) (dn : List (Nat × Nat × Nat)), S < 18446744073709551616 ∧ Blk wr w.heap.size 23 #[.int .u64 S] ∧ Fs.elsOf S 64 = rest ∧
    wr.ownsRow (w.heap.size + 1) 154 3 out dn.length (dn.flatMap runCells) ∧ Fs.RunRel L dn rest ∧ Below w.heap.size w wr ∧ dn.length + rest.length ≤ 64

/-- How many numbers are left. -/
def leftP (g : Nat) (wr : World) : Nat :=
  match wr.cell? ⟨g, 0, none⟩ with
  | some (.int _ n) => (Fs.elsOf n.toNat 64).length
  | _ => 0
theorem leftP_eq {g S : Nat} {wr : World} (h : Blk wr g 23 #[.int .u64 S]) : leftP g wr = (Fs.elsOf S 64).length := by
  unfold leftP
  rw [h.cell 0]; rfl

theorem RunsP.next {L : List Nat} {w W w2 : World} {S' k : Nat} {R : List Nat} {dn : List (Nat × Nat × Nat)} {out out2 : Value} {run : Nat × Nat × Nat} {o : Obj} (hS : S' < 18446744073709551616) (hB : Blk W w.heap.size 23 #[.int .u64 S'])
    (hel : Fs.elsOf S' 64 = R.drop k) (hk : (Fs.oneRun R).1 = k) (hrun : (Fs.oneRun R).2 = run) (hne : R ≠ []) (hrel : Fs.RunRel L dn R) (hsum : dn.length + R.length ≤ 64) (hbw : Below w.heap.size w W)
    (hown : W.ownsRow (w.heap.size + 1) 154 3 out dn.length (dn.flatMap runCells)) (hown2 : w2.ownsRow (w.heap.size + 1) 154 3 out2 (dn.length + 1) (dn.flatMap runCells ++ runCells run)) (hgrow : (W.alloc o).grownBy w2 out.ownBlock) :
    RunsP L w out2 w2 ∧ leftP w.heap.size w2 < R.length := by
  have hk1 : 1 ≤ k ∧ k ≤ R.length := by
    rcases R with _ | ⟨a, l⟩
    · exact absurd rfl hne
    · have h1 := Fs.oneRun_pos a l
      have h2 := Fs.oneRun_le a l
      rw [hk] at h1 h2
      exact ⟨h1, h2⟩
  have hgt : ∀ i, out.ownBlock = some i → w.heap.size + 1 ≤ i := fun i h => (hown.lt i h).1
  have hB2 : Blk w2 w.heap.size 23 #[.int .u64 S'] := (hB.alloc o).kp (kp_grown hgrow) (fun h => by have := hgt _ h; omega)
  have hl : (R.drop k).length = R.length - k := List.length_drop
  refine ⟨⟨S', R.drop k, dn ++ [run], hS, hB2, hel, by simpa using hown2, ?_, ?_, ?_⟩, ?_⟩
  · rcases R with _ | ⟨a, l⟩
    · exact absurd rfl hne
    · rw [← hk, ← hrun]; exact hrel.next
  · exact Kp.below (hbw.alloc hbw.size o) (kp_grown hgrow) (by have := hbw.size; simp; omega) (fun i h => by have := hgt i h; omega)
  · simp; omega
  · rw [leftP_eq hB2, hel, hl]; omega

theorem goes_run {S1 b st j : Nat} {r : List Nat} (hel : Fs.elsOf S1 64 = b :: r) (hst : 0 < st) (hj : j ≤ Fs.runLen st b r) : goesB S1 (b + j * st) st = decide (j < Fs.runLen st b r) := by
  have hget := Fs.runLen_get st b r
  have hend := Fs.runLen_end st b r
  have hle := Fs.runLen_le st b r
  have hsort := Fs.elsOf_sorted S1 64
  rw [hel] at hsort
  have hM : ∀ i, i ≤ j → (b :: r)[i]? = some (b + i * st) := by
    intro i hi
    rcases i with _ | i
    · simp
    · rw [List.getElem?_cons_succ, hget i (by omega)]
  have hnx : nextOf S1 (b + j * st + 1) = (b :: r)[j + 1]? := by
    refine nextOf_at hel _ _ (fun i x hi hx => ?_) (fun x hx => ?_)
    · rw [hM i (by omega)] at hx
      injection hx with hx
      have := Nat.mul_le_mul_right st (show i ≤ j by omega)
      omega
    · have h1 := hM j (Nat.le_refl _)
      obtain ⟨h2, h3⟩ := List.getElem?_eq_some_iff.1 h1
      obtain ⟨h4, h5⟩ := List.getElem?_eq_some_iff.1 hx
      have := List.pairwise_iff_getElem.1 hsort j (j + 1) h2 h4 (by omega)
      omega
  unfold goesB
  rw [hnx, List.getElem?_cons_succ]
  by_cases hlt : j < Fs.runLen st b r
  · rw [hget j hlt, Nat.succ_mul, Nat.add_assoc]
    simp [hlt]
  · obtain rfl : j = Fs.runLen st b r := by omega
    rw [Nat.succ_mul, ← Nat.add_assoc] at hend
    simp only [Nat.lt_irrefl, decide_false, beq_eq_false_iff_ne]
    exact hend

/-- A cell's number. -/
def cellI (g o : Nat) (wr : World) : Nat :=
  match wr.cell? ⟨g, o, none⟩ with
  | some (.int _ n) => n.toNat
  | _ => 0

set_option maxRecDepth 100000 in
set_option maxHeartbeats 2000000 in
theorem bits_Runs (s : Nat) (w : World) (hs : s < 18446744073709551616) (hT : Tabs w) :
    Calls Tryz.prog 82 #[.int .u64 s] w fun e w' =>
      ∃ v, e = .returned v ∧ w'.ownsRow w.heap.size 154 3 v (Fs.runsOf s).length ((Fs.runsOf s).flatMap runCells) ∧ Below w.heap.size w w' := by
  obtain ⟨i0, hi0, hz0, hz1, hz2⟩ := info_parts info_three
  have HT := Lib.hid hT; clear hT
  have hlen : (Fs.elsOf s 64).length ≤ 64 := els_len s 64
  have hrun : Fs.runsOf s = Fs.runs (Fs.elsOf s 64).length (Fs.elsOf s 64) := rfl
  rw [hrun]
  have hLs : Fs.elsOf s 64 = Fs.elsOf s 64 := rfl
  generalize hL : Fs.elsOf s 64 = L at hlen hrun ⊢
  have HL := Lib.hid hL
  have hmf : ∀ (fn : Fn) (first cap : Array Value) (w : World), (Instr.makeFunc fn first cap).run Tryz.prog w = .ok (.func fn first cap) w := fun _ _ _ _ => rfl
  clear hLs hL hrun
  go_enter Tryz.func82, Tryz.ntmps82
  go_wp2
  go_loopw [3] (fun out wr => RunsP L w out wr) (fun _ wr => leftP w.heap.size wr)
  case atStart => exact ⟨s, L, [], hs, Blk.new w _ _, HL.out, World.ownsRow_nil _ _ _ _, Fs.RunRel.start _, (Below.refl _ _).alloc (Nat.le_refl _) _, by simpa using hlen⟩
  case round =>
    obtain ⟨S, rest, dn, hS, hB, hel, hown, hrel, hbw, hsum⟩ := hrel
    have Hel := Lib.hid hel
    have Hown := Lib.hid hown
    have Hrel := Lib.hid hrel
    have Hbw := Lib.hid hbw
    have HB := Lib.hid hB
    have hwl := hB.lt
    obtain ⟨hc, hf⟩ := hB.facts
    have HTr := Lib.hid (HT.out.grow hbw)
    have hlf := leftP_eq hB
    have Hlf := Lib.hid hlf
    clear hel hown hrel hbw hB hlf
    rcases rest with _ | ⟨a, l⟩
    · have h0 := (els_nil hS).1 Hel.out
      subst h0
      have hdn := Hrel.out.last
      subst hdn
      go_wp2
      go_ret
      exact ⟨_, rfl, own_base Hown.out (by omega), Hbw.out⟩
    · obtain ⟨hctz, hS0⟩ := ctz_head hS Hel.out
      obtain ⟨ha64, hel1, hal⟩ := els_head Hel.out
      have hS0' : ((S : Int) != 0) = true := by rw [bne_iff_ne]; omega
      have htz := fun W h => rd_tz S hS W h
      rw [hctz] at htz
      have Htz := Lib.hid htz
      have hcl := clr_bits S a hS ha64
      have hS1 := clr_lt S a hS
      have Hel1 := Lib.hid hel1
      have Hal := Lib.hid hal
      clear htz hctz hS0 hel1 hal
      go_wp2_with (first | (go_at_call 120; ((with_reducible refine (Htz.out _ HTr.out).mono ?_)); rintro e w1 ⟨rfl, rfl⟩))
      obtain ⟨W0, hW0⟩ : ∃ W0 : World, wr.alloc (.cells #[.int .i64 a, .int .i64 a, .int .i64 1] 154) = W0 := ⟨_, rfl⟩
      rw [hW0]
      have HB0 : Hid (Blk W0 w.heap.size 23 #[.int .u64 S]) := Lib.hid (hW0 ▸ HB.out.alloc _)
      have HR0 : Hid (Blk W0 wr.heap.size 154 #[.int .i64 a, .int .i64 a, .int .i64 1]) := Lib.hid (hW0 ▸ Blk.new wr _ _)
      have HO0 : Hid (W0.ownsRow (w.heap.size + 1) 154 3 u3 dn.length (dn.flatMap runCells)) := Lib.hid (hW0 ▸ Hown.out.alloc _)
      have Hbw0 : Hid (Below w.heap.size w W0) := Lib.hid (hW0 ▸ Hbw.out.alloc (Nat.le_of_lt hwl) _)
      have HT0 : Hid (Tabs W0) := Lib.hid (hW0 ▸ HTr.out.alloc _)
      have hsz0 : wr.heap.size < W0.heap.size := by rw [← hW0]; simp
      have Hfr : Hid (∀ i, u3.ownBlock = some i → i < wr.heap.size) := Lib.hid (fun i h => (Hown.out.lt i h).2)
      clear hW0 hc hf
      obtain ⟨hc, hf⟩ := HB0.out.facts
      go_region
      obtain ⟨W1, hW1⟩ : ∃ W1 : World, (W0.setCell ⟨w.heap.size, 0, none⟩ (.int .u64 (clr S a))).drew = W1 := ⟨_, rfl⟩
      rw [hW1]
      have HB1 : Hid (Blk W1 w.heap.size 23 #[.int .u64 (clr S a)]) := Lib.hid (hW1 ▸ (HB0.out.set_ 0 _).drew)
      have HR1 : Hid (Blk W1 wr.heap.size 154 #[.int .i64 a, .int .i64 a, .int .i64 1]) := Lib.hid (hW1 ▸ (HR0.out.far (by show wr.heap.size ≠ w.heap.size; omega) _).drew)
      have HK1 : Hid (Kg w.heap.size W0 W1) := Lib.hid (hW1 ▸ (Kg.set_ (Kp.refl _ _) 0 _).drew)
      have HO1 : Hid (W1.ownsRow (w.heap.size + 1) 154 3 u3 dn.length (dn.flatMap runCells)) := Lib.hid (own_kp HO0.out HK1.out (fun i h e => by have := (HO0.out.lt i e).1; omega))
      have Hbw1 : Hid (Below w.heap.size w W1) := Lib.hid (Kp.below Hbw0.out HK1.out (by omega) (fun i h => by omega))
      have HT1 : Hid (Tabs W1) := Lib.hid (HT.out.grow Hbw1.out)
      have hsz1 : wr.heap.size < W1.heap.size := Nat.lt_of_lt_of_le hsz0 HK1.out.size
      clear hW1 hc hf
      have hnx : nextOf (clr S a) a = l[0]? := nextOf_at Hel1.out a 0 (fun i x hi => by omega) (fun x hx => by
        have := Hal.out x (List.mem_of_getElem? hx); omega)
      have hN := bits_Next (clr S a) a W1 hS1 (by omega) HT1.out
      rw [hnx] at hN
      have HS1 := Lib.hid hS1
      have HN := Lib.hid hN
      have Hcl := Lib.hid hcl
      clear hnx hN hcl hS1
      obtain ⟨hc, hf⟩ := HB1.out.facts
      obtain ⟨hcr, hfr⟩ := HR1.out.facts
      rcases l with _ | ⟨b, r⟩
      · have HN2 : Hid (Calls Tryz.prog 121 #[.int .u64 (clr S a), .int .i64 a] W1 fun e w' => e = .returned (.tuple #[.int .i64 0, .bool false]) ∧ W1 = w') := HN
        go_wp2_with (first | (go_at_call 121; ((with_reducible refine (HN2.out).mono ?_)); rintro e w1 ⟨rfl, rfl⟩) | (at_builtin; refine wpList_append_own _ rfl _ _ 152 rfl (w.heap.size + 1) 154 i0 _ 3 24 Tryz.underlying152 hi0 hz0 hz1 hz2 rfl (by decide) u3 dn.length (dn.flatMap runCells) rfl ((HO1.out).alloc _) ⟨(W1).heap.size, 0, none⟩ 1 1 [.int .i64 a, .int .i64 a, .int .i64 1] rfl rfl (World.news_of_block (cs := #[.int .i64 a, .int .i64 a, .int .i64 1]) (t := 154) (fr := (0, 0)) (heap_alloc_new (W1) _)) (by intro u hu; simp at hu; rcases hu with rfl | rfl | rfl <;> rfl) (by unfold maxLen; omega) (by omega) (by have := hsz1; simp; omega) ?_; intro v2 w2 hown2 hgrow2 _))
        have hnext := RunsP.next (R := [a]) (run := (a, a, 1)) (k := 1) HS1.out HB1.out Hel1.out rfl rfl (by simp) Hrel.out hsum Hbw1.out HO1.out (by simpa [runCells] using hown2) hgrow2
        go_roundw
        case rel => exact hnext.1
        case measure => rw [Hlf.out, Hel.out]; exact hnext.2
      · have hab : a < b := Hal.out b (by simp)
        have hb64 : b < 64 := (Fs.elsOf_mem.1 (Hel1.out ▸ List.mem_cons_self : b ∈ Fs.elsOf (clr S a) 64)).1
        obtain ⟨st, hst⟩ : ∃ st, b - a = st := ⟨_, rfl⟩
        have hst0 : 0 < st := by omega
        have hst64 : st < 64 := by omega
        have hsub : (b : Int) - (a : Int) = (st : Int) := by omega
        have HN2 : Hid (Calls Tryz.prog 121 #[.int .u64 (clr S a), .int .i64 a] W1 fun e w' => e = .returned (.tuple #[.int .i64 b, .bool true]) ∧ W1 = w') := HN
        obtain ⟨W2, hW2⟩ : ∃ W2 : World, W1.alloc (.cells #[.int .i64 st] 3) = W2 := ⟨_, rfl⟩
        have HB2 : Hid (Blk W2 w.heap.size 23 #[.int .u64 (clr S a)]) := Lib.hid (hW2 ▸ HB1.out.alloc _)
        have HR2 : Hid (Blk W2 wr.heap.size 154 #[.int .i64 a, .int .i64 a, .int .i64 1]) := Lib.hid (hW2 ▸ HR1.out.alloc _)
        have HD2 : Hid (Blk W2 W1.heap.size 3 #[.int .i64 st]) := Lib.hid (hW2 ▸ Blk.new W1 _ _)
        have HO2 : Hid (W2.ownsRow (w.heap.size + 1) 154 3 u3 dn.length (dn.flatMap runCells)) := Lib.hid (hW2 ▸ HO1.out.alloc _)
        have Hbw2 : Hid (Below w.heap.size w W2) := Lib.hid (hW2 ▸ Hbw1.out.alloc Hbw1.out.size _)
        have HT2 : Hid (Tabs W2) := Lib.hid (HT.out.grow Hbw2.out)
        have hsz2 : W1.heap.size < W2.heap.size := by rw [← hW2]; simp
        have HGo : Hid (∀ (v : Nat) (W : World), v < 900 → Tabs W → W.cell? ⟨w.heap.size, 0, none⟩ = some (.int .u64 (clr S a)) → W.cell? ⟨W1.heap.size, 0, none⟩ = some (.int .i64 st) → Calls Tryz.prog 122 #[.int .i64 v, .pointer (some ⟨w.heap.size, 0, none⟩), .pointer (some ⟨W1.heap.size, 0, none⟩)] W fun e w' => e = .returned (.bool (goesB (clr S a) v st)) ∧ W = w') := Lib.hid (fun v W h1 h2 h3 h4 => bits_goes v st (clr S a) w.heap.size W1.heap.size W HS1.out h1 (by omega) h2 h3 h4)
        have hgb := HGo.out b W2 (by omega) HT2.out (HB2.out.cell 0) (HD2.out.cell 0)
        have hgr := goes_run (j := 0) Hel1.out hst0 (by omega)
        rw [Nat.zero_mul, Nat.add_zero] at hgr
        rw [hgr] at hgb
        have HGb := Lib.hid hgb
        have HW2 := Lib.hid hW2
        clear hgb hgr hW2
        generalize hn : Fs.runLen st b r = n at HGb
        have Hn := Lib.hid hn
        have hst := Lib.hid hst
        clear hn
        by_cases hcond : n = 0 ∧ 1 < st
        · obtain ⟨hn0, hst1⟩ := hcond
          have HGb2 : Hid (Calls Tryz.prog 122 #[.int .i64 b, .pointer (some ⟨w.heap.size, 0, none⟩), .pointer (some ⟨W1.heap.size, 0, none⟩)] W2 fun e w' => e = .returned (.bool false) ∧ W2 = w') := by
            have := HGb.out
            rw [hn0] at this
            exact Lib.hid this
          have hs1 : ((st : Int) == 1) = false := by rw [beq_eq_false_iff_ne]; omega
          have hone : Fs.oneRun (a :: b :: r) = (1, a, a, 1) := by
            have := Hn.out
            rw [← hst.out] at this hst1
            simp only [Fs.oneRun, this]
            rw [if_pos ⟨hn0, hst1⟩]
          have Hone := Lib.hid hone; clear hone
          go_wp2_with (first
            | (go_at_call 121; ((with_reducible refine (HN2.out).mono ?_)); rintro e w1 ⟨rfl, rfl⟩)
            | (go_at_call 122; rw [HW2.out]; ((with_reducible refine (HGb2.out).mono ?_)); rintro e w1 ⟨rfl, rfl⟩; clear hc hf hcr hfr; obtain ⟨hc, hf⟩ := HB2.out.facts; obtain ⟨hcr, hfr⟩ := HR2.out.facts; obtain ⟨hcd, hfd⟩ := HD2.out.facts)
            | (at_builtin; refine wpList_append_own _ rfl _ _ 152 rfl (w.heap.size + 1) 154 i0 _ 3 24 Tryz.underlying152 hi0 hz0 hz1 hz2 rfl (by decide) u3 dn.length (dn.flatMap runCells) rfl ((HO2.out).alloc _) ⟨(W2).heap.size, 0, none⟩ 1 1 [.int .i64 a, .int .i64 a, .int .i64 1] rfl rfl (World.news_of_block (cs := #[.int .i64 a, .int .i64 a, .int .i64 1]) (t := 154) (fr := (0, 0)) (heap_alloc_new (W2) _)) (by intro u hu; simp at hu; rcases hu with rfl | rfl | rfl <;> rfl) (by unfold maxLen; omega) (by omega) (by have := hsz2; simp; omega) ?_; intro v2 w2 hown2 hgrow2 _))
          have hnext := RunsP.next (R := a :: b :: r) (run := (a, a, 1)) (k := 1) HS1.out HB2.out Hel1.out (by rw [Hone.out]) (by rw [Hone.out]) (by simp) Hrel.out hsum Hbw2.out HO2.out (by simpa [runCells] using hown2) hgrow2
          go_roundw
          case rel => exact hnext.1
          case measure => rw [Hlf.out, Hel.out]; exact hnext.2
        · have hone : Fs.oneRun (a :: b :: r) = (2 + n, a, b + n * st, st) := by
            have := Hn.out
            rw [← hst.out] at this hcond ⊢
            simp only [Fs.oneRun, this]
            rw [if_neg hcond]
          have Hone := Lib.hid hone; clear hone
          have HGb2 : Hid (0 < n → Calls Tryz.prog 122 #[.int .i64 b, .pointer (some ⟨w.heap.size, 0, none⟩), .pointer (some ⟨W1.heap.size, 0, none⟩)] W2 fun e w' => e = .returned (.bool true) ∧ W2 = w') := Lib.hid (fun h => by
            have := HGb.out
            rw [decide_eq_true h] at this
            exact this)
          have hcase : ((st : Int) == 1) = true ∨ (((st : Int) == 1) = false ∧ 0 < n) := by
            by_cases h1 : st = 1
            · exact .inl (by rw [beq_iff_eq]; omega)
            · exact .inr ⟨by rw [beq_eq_false_iff_ne]; omega, by omega⟩
          rcases hcase with hs1 | ⟨hs1, hn1⟩
          all_goals
            go_wp2_with (first
              | (go_at_call 121; ((with_reducible refine (HN2.out).mono ?_)); rintro e w1 ⟨rfl, rfl⟩)
              | (go_at_call 122; rw [HW2.out]; ((with_reducible refine (HGb2.out (by omega)).mono ?_)); rintro e w1 ⟨rfl, rfl⟩))
            try rw [HW2.out]
            clear hc hf hcr hfr
            obtain ⟨hc, hf⟩ := HB2.out.facts
            obtain ⟨hcr, hfr⟩ := HR2.out.facts
            obtain ⟨hcd, hfd⟩ := HD2.out.facts
            go_region
            obtain ⟨W3, hW3⟩ : ∃ W3 : World, ((W2.setCell ⟨wr.heap.size, 1, none⟩ (.int .i64 b)).setCell ⟨wr.heap.size, 2, none⟩ (.int .i64 st)).drew = W3 := ⟨_, rfl⟩
            rw [hW3]
            have HR3 : Hid (Blk W3 wr.heap.size 154 #[.int .i64 a, .int .i64 b, .int .i64 st]) := Lib.hid (hW3 ▸ ((HR2.out.set_ 1 _).set_ 2 _).drew)
            have HK3 : Hid (Kg wr.heap.size W2 W3) := Lib.hid (hW3 ▸ (Kg.set_ (Kg.set_ (Kp.refl _ _) 1 _) 2 _).drew)
            have HB3 : Hid (Blk W3 w.heap.size 23 #[.int .u64 (clr S a)]) := Lib.hid (HB2.out.kp HK3.out (by omega))
            have HD3 : Hid (Blk W3 W1.heap.size 3 #[.int .i64 st]) := Lib.hid (HD2.out.kp HK3.out (by omega))
            have HO3 : Hid (W3.ownsRow (w.heap.size + 1) 154 3 u3 dn.length (dn.flatMap runCells)) := Lib.hid (own_kp HO2.out HK3.out (fun i h e => by have := Hfr.out i e; omega))
            have Hbw3 : Hid (Below w.heap.size w W3) := Lib.hid (Kp.below Hbw2.out HK3.out (by omega) (fun i h => by omega))
            have hsz3 : W1.heap.size < W3.heap.size := Nat.lt_of_lt_of_le hsz2 HK3.out.size
            clear hc hf hcr hfr hcd hfd hW3
            obtain ⟨wo, rfl⟩ : ∃ wo : World, wo = wr := ⟨_, rfl⟩
            have hbd : ∀ j, j ≤ n → (b :: r)[j]? = some (b + j * st) := by
              intro j hj
              rcases j with _ | j
              · simp
              · rw [List.getElem?_cons_succ, Fs.runLen_get st b r j (by rw [Hn.out]; omega)]
            have hbd64 : ∀ j, j ≤ n → b + j * st < 64 := fun j hj => (Fs.elsOf_mem.1 (Hel1.out ▸ List.mem_of_getElem? (hbd j hj) : b + j * st ∈ Fs.elsOf (clr S a) 64)).1
            have Hbd := Lib.hid hbd
            have Hbd64 := Lib.hid hbd64
            have Hgo : Hid (∀ j, j ≤ n → goesB (clr S a) (b + j * st) st = decide (j < n)) := Lib.hid (fun j hj => by rw [goes_run Hel1.out hst0 (by rw [Hn.out]; exact hj), Hn.out])
            clear hbd hbd64
            go_wp2_with fail
            go_loopw [] (fun wz => ∃ j : Nat, j ≤ n ∧ Kg wo.heap.size W3 wz ∧ Blk wz wo.heap.size 154 #[.int .i64 a, .int .i64 (b + j * st : Nat), .int .i64 st]) (fun wz => 64 - cellI wo.heap.size 1 wz)
            case atStart => exact ⟨0, by omega, Kp.refl _ _, by simpa using HR3.out⟩
            case round =>
              obtain ⟨j, hj, hkz, hRz⟩ := hrel
              have HKz := Lib.hid hkz
              have HRz := Lib.hid hRz
              have HBz : Hid (Blk wr w.heap.size 23 #[.int .u64 (clr S a)]) := Lib.hid (HB3.out.kp hkz (by omega))
              have HDz : Hid (Blk wr W1.heap.size 3 #[.int .i64 st]) := Lib.hid (HD3.out.kp hkz (by omega))
              have Hbwz : Hid (Below w.heap.size w wr) := Lib.hid (Kp.below Hbw3.out hkz (by omega) (fun i h => by omega))
              have HTz : Hid (Tabs wr) := Lib.hid (HT.out.grow Hbwz.out)
              have hszz : W1.heap.size < wr.heap.size := Nat.lt_of_lt_of_le hsz3 hkz.size
              have hV64 := Hbd64.out j hj
              have hgo := HGo.out (b + j * st) wr (by omega) HTz.out (HBz.out.cell 0) (HDz.out.cell 0)
              rw [Hgo.out j hj] at hgo
              obtain ⟨V, hV⟩ : ∃ V, b + j * st = V := ⟨_, rfl⟩
              rw [hV] at hgo HRz hV64
              have HV := Lib.hid hV
              have HGz := Lib.hid hgo
              clear hkz hRz hgo hV
              obtain ⟨hcd, hfd⟩ := HDz.out.facts
              obtain ⟨hcr, hfr⟩ := HRz.out.facts
              by_cases hlt : j < n
              · have HG2 : Hid (Calls Tryz.prog 122 #[.int .i64 V, .pointer (some ⟨w.heap.size, 0, none⟩), .pointer (some ⟨W1.heap.size, 0, none⟩)] wr fun e w' => e = .returned (.bool true) ∧ wr = w') := Lib.hid (by have := HGz.out; rw [decide_eq_true hlt] at this; exact this)
                have hV2 := Hbd64.out (j + 1) hlt
                have hVe : b + (j + 1) * st = V + st := by rw [Nat.succ_mul, ← HV.out, Nat.add_assoc]
                rw [hVe] at hV2
                have HVe := Lib.hid hVe
                clear hVe
                go_wp2_with (go_at_call 122; ((with_reducible refine (HG2.out).mono ?_)); rintro e w1 ⟨rfl, rfl⟩)
                go_roundw
                case rel => exact ⟨j + 1, hlt, Kg.set_ HKz.out _ _, by rw [HVe.out]; exact HRz.out.set_ 1 _⟩
                case measure =>
                  have e1 : cellI wo.heap.size 1 wr = V := by unfold cellI; rw [HRz.out.cell 1]; rfl
                  have e2 : ∀ v : Nat, cellI wo.heap.size 1 (wr.setCell ⟨wo.heap.size, 1, none⟩ (.int .i64 v)) = v := fun v => by unfold cellI; rw [(HRz.out.set_ 1 (.int .i64 v)).cell 1]; rfl
                  have e3 := e2 (V + st)
                  rw [show ((V + st : Nat) : Int) = (V : Int) + (st : Int) from by omega] at e3
                  rw [e1, e3]
                  omega
              · have HG2 : Hid (Calls Tryz.prog 122 #[.int .i64 V, .pointer (some ⟨w.heap.size, 0, none⟩), .pointer (some ⟨W1.heap.size, 0, none⟩)] wr fun e w' => e = .returned (.bool false) ∧ wr = w') := Lib.hid (by have := HGz.out; rw [decide_eq_false hlt] at this; exact this)
                obtain rfl : j = n := by omega
                go_wp2_with (go_at_call 122; ((with_reducible refine (HG2.out).mono ?_)); rintro e w1 ⟨rfl, rfl⟩)
                clear hcd hfd hcr hfr
                obtain ⟨wp, rfl⟩ : ∃ wp : World, wp = wr := ⟨_, rfl⟩
                have HOz : Hid (wp.ownsRow (w.heap.size + 1) 154 3 u3 dn.length (dn.flatMap runCells)) := Lib.hid (own_kp HO3.out HKz.out (fun i h e => by have := Hfr.out i e; omega))
                go_loopw [10] (fun v wz => ∃ i S' : Nat, i ≤ j + 1 ∧ v = .int .i64 (b + i * st : Nat) ∧ S' < 18446744073709551616 ∧ Blk wz w.heap.size 23 #[.int .u64 S'] ∧ Fs.elsOf S' 64 = (b :: r).drop i ∧ Kg w.heap.size wp wz) (fun v _ => V + 1 - (intOf v).toNat)
                case atStart => exact ⟨0, clr S a, by omega, by rw [Nat.zero_mul, Nat.add_zero], HS1.out, HBz.out, Hel1.out, Kp.refl _ _⟩
                case round =>
                  obtain ⟨i, S', hi, rfl, hS', hB4, hel4, hk4⟩ := hrel
                  have HB4 := Lib.hid hB4
                  have HK4 := Lib.hid hk4
                  have HR4 : Hid (Blk wr wo.heap.size 154 #[.int .i64 a, .int .i64 V, .int .i64 st]) := Lib.hid (HRz.out.kp hk4 (by omega))
                  have HD4 : Hid (Blk wr W1.heap.size 3 #[.int .i64 st]) := Lib.hid (HDz.out.kp hk4 (by omega))
                  have hsz4 : W1.heap.size < wr.heap.size := Nat.lt_of_lt_of_le hszz hk4.size
                  obtain ⟨hc, hf⟩ := hB4.facts
                  obtain ⟨hcr, hfr⟩ := HR4.out.facts
                  obtain ⟨hcd, hfd⟩ := HD4.out.facts
                  have Hel4 := Lib.hid hel4
                  clear hB4 hk4 hel4
                  by_cases hile : i ≤ j
                  · have hx64 := Hbd64.out i hile
                    have hxV : b + i * st ≤ V := by
                      rw [← HV.out]
                      have := Nat.mul_le_mul_right st hile
                      omega
                    have hxe : b + (i + 1) * st = b + i * st + st := by rw [Nat.succ_mul, Nat.add_assoc]
                    have hdrop : (b :: r).drop i = (b + i * st) :: (b :: r).drop (i + 1) := by
                      obtain ⟨h1, h2⟩ := List.getElem?_eq_some_iff.1 (Hbd.out i hile)
                      rw [List.drop_eq_getElem_cons h1, h2]
                    have hel5 := Hel4.out
                    rw [hdrop] at hel5
                    obtain ⟨_, hel6, _⟩ := els_head hel5
                    obtain ⟨x, hx⟩ : ∃ x, b + i * st = x := ⟨_, rfl⟩
                    rw [hx] at hx64 hxV hxe hel6 ⊢
                    have Hxe := Lib.hid hxe
                    have Hel6 := Lib.hid hel6
                    have hcx := clr_bits S' x hS' hx64
                    have hS2 := clr_lt S' x hS'
                    have HS2 := Lib.hid hS2
                    clear hx hxe hel5 hel6 hdrop hS2
                    go_wp2_with fail
                    go_region
                    obtain ⟨W5, hW5⟩ : ∃ W5 : World, (wr.setCell ⟨w.heap.size, 0, none⟩ (.int .u64 (clr S' x))).drew = W5 := ⟨_, rfl⟩
                    rw [hW5]
                    have HB5 : Hid (Blk W5 w.heap.size 23 #[.int .u64 (clr S' x)]) := Lib.hid (hW5 ▸ (HB4.out.set_ 0 _).drew)
                    have HK5 : Hid (Kg w.heap.size wr W5) := Lib.hid (hW5 ▸ (Kg.set_ (Kp.refl _ _) 0 _).drew)
                    clear hc hf hcr hfr hcd hfd hW5
                    obtain ⟨hcd, hfd⟩ := (HD4.out.kp HK5.out (show ¬ W1.heap.size = w.heap.size by omega)).facts
                    go_wp2_with fail
                    go_roundw
                    case rel => exact ⟨i + 1, clr S' x, by omega, by rw [Hxe.out, show ((x + st : Nat) : Int) = (x : Int) + (st : Int) from by omega], HS2.out, HB5.out, Hel6.out, HK4.out.trans HK5.out⟩
                    case measure => simp [intOf]; omega
                  · obtain rfl : i = j + 1 := by omega
                    have hxe : b + (j + 1) * st = V + st := by rw [Nat.succ_mul, ← HV.out, Nat.add_assoc]
                    rw [hxe]
                    have HO4 : Hid (wr.ownsRow (w.heap.size + 1) 154 3 u3 dn.length (dn.flatMap runCells)) := Lib.hid (own_kp HOz.out HK4.out (fun i h e => by have := (HOz.out.lt i e).1; omega))
                    have Hbw4 : Hid (Below w.heap.size w wr) := Lib.hid (Kp.below Hbwz.out HK4.out (by omega) (fun i h => by omega))
                    have hSd : Fs.elsOf S' 64 = (a :: b :: r).drop (2 + j) := by rw [Hel4.out, show 2 + j = (j + 1) + 1 from by omega]; rfl
                    have HSd := Lib.hid hSd
                    have hVst : ¬ V + st ≤ V := by omega
                    clear hxe hSd
                    go_wp2_with (at_builtin; refine wpList_append_own _ rfl _ _ 152 rfl (w.heap.size + 1) 154 i0 _ 3 24 Tryz.underlying152 hi0 hz0 hz1 hz2 rfl (by decide) u3 dn.length (dn.flatMap runCells) rfl ((HO4.out).alloc _) ⟨(wr).heap.size, 0, none⟩ 1 1 [.int .i64 a, .int .i64 V, .int .i64 st] rfl rfl (World.news_of_block (cs := #[.int .i64 a, .int .i64 V, .int .i64 st]) (t := 154) (fr := (0, 0)) (heap_alloc_new (wr) _)) (by intro u hu; simp at hu; rcases hu with rfl | rfl | rfl <;> rfl) (by unfold maxLen; omega) (by omega) (by have := hsz4; simp; omega) ?_; intro v2 w2 hown2 hgrow2 _)
                    have hnext := RunsP.next (R := a :: b :: r) (run := (a, V, st)) (k := 2 + j) hS' HB4.out HSd.out (by rw [Hone.out]) (by rw [Hone.out, HV.out]) (by simp) Hrel.out hsum Hbw4.out HO4.out (by simpa [runCells] using hown2) hgrow2
                    go_roundw
                    case rel => exact hnext.1
                    case measure => rw [Hlf.out, Hel.out]; exact hnext.2

end Go.Proofs.YtjnlgaeedcklaaaGreatDoor
