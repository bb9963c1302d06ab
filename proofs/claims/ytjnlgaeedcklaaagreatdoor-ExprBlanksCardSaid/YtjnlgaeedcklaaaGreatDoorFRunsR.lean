/-
  The document's text: a set as few ranges with steps.
-/
import Derived.Test.YtjnlgaeedcklaaaGreatDoorFBack
import Derived.Test.YtjnlgaeedcklaaaGreatDoorFList
import Derived.Deep.RegionLaw
import Derived.Deep.AppendLies
import Derived.BigQuiet
import Derived.IntWalk
set_option linter.unusedVariables false
set_option linter.unusedSimpArgs false
namespace Go.Proofs.YtjnlgaeedcklaaaGreatDoor
open Go.RowKit

theorem els_pair (s k : Nat) : (els s k).Pairwise (· < ·) := List.Pairwise.filter _ List.pairwise_lt_range
theorem els_lt {s k n : Nat} (h : n ∈ els s k) : n < k := by
  rw [els, List.mem_filter] at h
  exact List.mem_range.1 h.1

/-- The slice reads as these numbers, in a block below B. -/
def Ints (w : World) (B : Nat) (A : Option Addr) (l : List Nat) : Prop :=
  l = [] ∨ ∃ b off, A = some ⟨b, off, none⟩ ∧ b < B ∧ ∀ j, j < l.length → w.cell? ⟨b, off + j, none⟩ = some (.int .i64 (l.getD j 0 : Nat))

def runCells (x : Nat × Nat × Nat) : List Value := [.int .i64 x.1, .int .i64 x.2.1, .int .i64 x.2.2]

theorem info_three : (Tryz.prog.info? 154).map (fun i => (i.zero, i.size, i.bytes)) = some (some (.agg #[.int .i64 0, .int .i64 0, .int .i64 0]), 3, 24) := by kernel_rfl

/-- The state of the outer loop. -/
def RunsL (L : List Nat) (B : Nat) (w : World) (lf out : Value) (wr : World) : Prop :=
  ∃ (A : Option Addr) (c : Nat) (rest : List Nat) (dn : List (Nat × Nat × Nat)), lf = .slice A rest.length c ∧ rest.length ≤ c ∧ rest.Pairwise (· < ·) ∧ (∀ x ∈ rest, x < 64) ∧ Ints wr B A rest ∧
    wr.ownsRow B 154 3 out dn.length (dn.flatMap runCells) ∧ Fs.RunRel L dn rest ∧ Below w.heap.size w wr ∧ B ≤ wr.heap.size ∧ dn.length + rest.length ≤ 64

theorem own_base {w : World} {base base' : Nat} {e : TypeId} {size n : Nat} {v : Value} {xs : List Value} (h : w.ownsRow base e size v n xs) (hb : base' ≤ base) : w.ownsRow base' e size v n xs := by
  rcases h with ⟨hl, ⟨rfl, hn⟩ | ⟨g, cap, cur, rfl, hb', hrest⟩⟩
  · exact ⟨hl, .inl ⟨rfl, hn⟩⟩
  · exact ⟨hl, .inr ⟨g, cap, cur, rfl, Nat.le_trans hb hb', hrest⟩⟩

theorem own_ints {w : World} {base : Nat} {v : Value} {l : List Nat} (h : w.ownsRow base 3 1 v l.length (ints l)) : ∃ A c, v = .slice A l.length c ∧ l.length ≤ c ∧ Ints w w.heap.size A l := by
  rcases h.2 with ⟨rfl, hn⟩ | ⟨g, cap, cur, rfl, hb, hg, hnc, hcm, hcs, htake⟩
  · exact ⟨none, 0, by rw [hn], by omega, .inl (List.eq_nil_of_length_eq_zero hn)⟩
  · refine ⟨_, _, rfl, hnc, .inr ⟨g, 0, rfl, ?_, fun j hj => ?_⟩⟩
    · exact (Array.getElem?_eq_some_iff.1 hg).1
    · have := h.cells (g := g) rfl j (.int .i64 (l.getD j 0 : Nat)) (by simp [ints, List.getElem?_map, List.getD_eq_getElem?_getD, List.getElem?_eq_getElem hj])
      rw [Nat.zero_add]
      rcases j with _ | j
      · simpa [Addr.add] using this
      · simpa [Addr.add] using this

theorem oneRun_of (R : List Nat) (a b : Nat) (ha : R.getD 0 0 = a) (hb : R.getD 1 0 = b) (h2 : 2 ≤ R.length) (m : Nat) (hm : 2 ≤ m) (hm2 : m ≤ R.length) (hi : ∀ i, i + 2 < m → R.getD (i + 2) 0 = b + (i + 1) * (b - a))
    (he : m < R.length → R.getD m 0 ≠ b + (m - 1) * (b - a)) : (m = 2 ∧ 1 < b - a → Fs.oneRun R = (1, a, a, 1)) ∧ (¬ (m = 2 ∧ 1 < b - a) → Fs.oneRun R = (m, a, R.getD (m - 1) 0, b - a)) := by
  rcases R with _ | ⟨x, _ | ⟨y, r⟩⟩
  · simp at h2
  · simp at h2
  · simp only [List.getD_cons_zero, List.getD_cons_succ] at ha hb
    subst ha hb
    have hr : Fs.runLen (y - x) y r = m - 2 := by
      refine Fs.runLen_eq _ _ _ _ (fun i h => ?_) ?_
      · have h1 := hi i (by omega)
        simp only [List.length_cons] at hm2
        rw [List.getD_cons_succ, List.getD_cons_succ] at h1
        rw [← h1, List.getD_eq_getElem?_getD, List.getElem?_eq_getElem (by omega)]; rfl
      · intro h
        have hlt : m - 2 < r.length := (List.getElem?_eq_some_iff.1 h).1
        refine he (by simp; omega) ?_
        obtain ⟨k, rfl⟩ : ∃ k, m = k + 2 := ⟨m - 2, by omega⟩
        rw [List.getD_cons_succ, List.getD_cons_succ, List.getD_eq_getElem?_getD]
        simp only [Nat.add_sub_cancel] at h
        rw [h]; rfl
    simp only [Fs.oneRun, hr]
    constructor
    · rintro ⟨h1, h3⟩
      rw [if_pos ⟨by omega, h3⟩]
    · intro h
      rw [if_neg (by omega)]
      have e : (x :: y :: r).getD (m - 1) 0 = y + (m - 2) * (y - x) := by
        rcases Nat.lt_or_ge 2 m with h3 | h3
        · obtain ⟨k, rfl⟩ : ∃ k, m = k + 3 := ⟨m - 3, by omega⟩
          have := hi k (by omega)
          simpa using this
        · obtain rfl : m = 2 := by omega
          simp
      rw [e]
      congr 1
      omega

theorem RunsL.next {L : List Nat} {B : Nat} {w wr w2 : World} {bk off c k : Nat} {R : List Nat} {dn : List (Nat × Nat × Nat)} {out2 : Value} {run : Nat × Nat × Nat} (hbk : bk < B) (hR : R.length ≤ c) (hne : R ≠ [])
    (hk : (Fs.oneRun R).1 = k) (hrun : (Fs.oneRun R).2 = run) (hcs : ∀ j, j < R.length → wr.cell? ⟨bk, off + j, none⟩ = some (.int .i64 (R.getD j 0 : Nat))) (hp : R.Pairwise (· < ·)) (hlt : ∀ x ∈ R, x < 64) (hrel : Fs.RunRel L dn R) (hsum : dn.length + R.length ≤ 64)
    (hown2 : w2.ownsRow B 154 3 out2 (dn.length + 1) (dn.flatMap runCells ++ runCells run)) (hb : Below w.heap.size w wr) (hB : B ≤ wr.heap.size) (hw : w.heap.size ≤ B) (hkp : Kp (fun i => B ≤ i) wr w2) {A2 : Option Addr} (hA : k < R.length → A2 = some ⟨bk, off + k, none⟩) :
    RunsL L B w (.slice A2 (R.length - k) (c - k)) out2 w2 := by
  have hk1 : 1 ≤ k ∧ k ≤ R.length := by
    rcases R with _ | ⟨a, l⟩
    · exact absurd rfl hne
    · have h1 := Fs.oneRun_pos a l
      have h2 := Fs.oneRun_le a l
      rw [hk] at h1 h2
      exact ⟨h1, h2⟩
  have hl : (R.drop k).length = R.length - k := List.length_drop
  refine ⟨_, _, R.drop k, dn ++ [run], by rw [hl], by omega, hp.drop, fun x hx => hlt x (List.mem_of_mem_drop hx), ?_, ?_, ?_, Kp.below hb hkp (by omega) (fun i hi => by omega), by have := hkp.size; omega, ?_⟩
  · rcases Nat.lt_or_ge k R.length with h | h
    · refine .inr ⟨bk, off + k, hA h, hbk, fun j hj => ?_⟩
      have h1 := hcs (k + j) (by omega)
      have h2 : w2.cell? ⟨bk, off + (k + j), none⟩ = wr.cell? ⟨bk, off + (k + j), none⟩ := World.cell?_of_block (hkp.block bk (by omega) (by omega))
      rw [Nat.add_assoc, h2, h1]
      simp [List.getD_eq_getElem?_getD, List.getElem?_drop]
    · exact .inl (List.eq_nil_of_length_eq_zero (by omega))
  · simpa using hown2
  · rcases R with _ | ⟨a, l⟩
    · exact absurd rfl hne
    · rw [← hk, ← hrun]; exact hrel.next
  · simp; omega

set_option maxRecDepth 100000 in
set_option maxHeartbeats 2000000 in
theorem ref_Runs (s : Nat) (w : World) (hs : s < 18446744073709551616) :
    Calls Tryz.prog 87 #[.int .u64 s] w fun e w' =>
      ∃ v, e = .returned v ∧ w'.ownsRow w.heap.size 154 3 v (Fs.runs (els s 64).length (els s 64)).length ((Fs.runs (els s 64).length (els s 64)).flatMap runCells) ∧ Below w.heap.size w w' := by
  obtain ⟨i0, hi0, hz0, hz1, hz2⟩ := info_parts info_three
  have hL := ref_List s w hs
  have HL := Lib.hid hL; clear hL
  have hp := els_pair s 64
  have Hp := Lib.hid hp; clear hp
  have hlt : ∀ x ∈ els s 64, x < 64 := fun x h => els_lt h
  have Hlt := Lib.hid hlt; clear hlt
  have hlen := els_len s 64
  generalize els s 64 = L at *
  go_enter Tryz.func87, Tryz.ntmps87
  go_wp2_with (first | (go_at_call 125; ((with_reducible refine (HL.out).mono ?_)); rintro e w1 ⟨v1, rfl, hown1, hb1⟩))
  obtain ⟨A1, c1, hv1, hc1, hi1⟩ := own_ints hown1
  subst hv1
  have Hi1 := Lib.hid hi1
  have Hb1 := Lib.hid hb1
  clear hi1 hown1 hb1
  go_loopw [3, 4, 5, 6] (fun lf out _ _ wr => RunsL L w1.heap.size w lf out wr) (fun lf _ _ _ _ => match lf with | .slice _ n _ => n | _ => 0)
  case atStart => exact ⟨A1, c1, L, [], rfl, hc1, Hp.out, Hlt.out, Hi1.out, World.ownsRow_nil _ _ _ _, Fs.RunRel.start _, Hb1.out, Nat.le_refl _, by simpa using hlen⟩
  case round =>
    obtain ⟨A, c, rest, dn, rfl, hrc, hpr, hlr, hint, hown, hrel, hbw, hB, hsum⟩ := hrel
    have Hint := Lib.hid hint
    have Hown := Lib.hid hown
    have Hrel := Lib.hid hrel
    have Hbw := Lib.hid hbw
    have Hpr := Lib.hid hpr
    have Hlr := Lib.hid hlr
    clear hint hown hrel hbw hpr hlr
    rcases rest with _ | ⟨a, l⟩
    · have hdn := Hrel.out.last
      subst hdn
      go_wp2
      go_ret
      exact ⟨_, rfl, own_base Hown.out Hb1.out.size, Hbw.out⟩
    · rcases l with _ | ⟨b, r⟩
      · rcases Hint.out with h | ⟨bk, off, rfl, hbk, hcs⟩
        · cases h
        have c0 : wr.cell? ⟨bk, off, none⟩ = some (.int .i64 a) := by simpa using hcs 0 (by simp)
        have Hcs := Lib.hid hcs; clear hcs
        go_wp2_with fail
        have z0 : IntKind.i64.wrap 0 = 0 := rfl
        go_region_law (refine step_append_lies _ (by rfl) _ _ _ (by rfl) w1.heap.size 154 i0 _ 3 24 Tryz.underlying152 hi0 hz0 hz1 hz2 rfl (by omega) u4 dn.length (dn.flatMap runCells) (by rfl) ((Hown.out.alloc _).drew) ⟨wr.heap.size, 0, none⟩ 1 1 [.int .i64 a, .int .i64 a, .int .i64 1] (by rfl) (by rfl) (World.news_of_block (cs := #[.int .i64 a, .int .i64 a, .int .i64 1]) (t := 154) (fr := (0, 0)) (heap_alloc_new wr _)) (by intro u hu; simp at hu; rcases hu with rfl | rfl | rfl <;> rfl) (by omega) (by unfold maxLen; omega) (by omega) (by simp; omega) (wr.heap.size + 1) (by simp) ?_; intro gg cap w2 hown2 hgrow2 hat2 hlt2)
        all_goals
          go_wp2_with fail
          refine ⟨?_, by simp⟩
          exact RunsL.next (k := 1) (R := [a]) (run := (a, a, 1)) hbk hrc (by simp) rfl rfl Hcs.out Hpr.out Hlr.out Hrel.out hsum (by simpa [runCells] using hown2) Hbw.out hB Hb1.out.size (((Kp.refl _ _).alloc _).drew.trans ((kp_grown hgrow2).mono (fun i hi => (Hown.out.lt i hi).1))) (by first | (intro _; rfl) | (intro h; rw [if_neg (by omega)]) | (intro h; simp at h))
      · have hlen2 : 2 ≤ (a :: b :: r).length := by simp
        have ha : (a :: b :: r).getD 0 0 = a := rfl
        have hb : (a :: b :: r).getD 1 0 = b := rfl
        have hne : a :: b :: r ≠ [] := by simp
        generalize (a :: b :: r) = R at *
        rcases Hint.out with h | ⟨bk, off, rfl, hbk, hcs⟩
        · exact absurd h hne
        have c0 : wr.cell? ⟨bk, off, none⟩ = some (.int .i64 a) := by have := hcs 0 (by omega); rw [ha] at this; exact this
        have c1 : wr.cell? ⟨bk, off + 1, none⟩ = some (.int .i64 b) := by have := hcs 1 (by omega); rw [hb] at this; exact this
        have Hcs := Lib.hid hcs; clear hcs
        have Ha := Lib.hid ha; clear ha
        have Hb := Lib.hid hb; clear hb
        have Hne := Lib.hid hne; clear hne
        have hab : a < b := by
          have := List.pairwise_iff_getElem.1 Hpr.out 0 1 (by omega) (by omega) (by omega)
          rw [← Ha.out, ← Hb.out]
          simpa [List.getD_eq_getElem?_getD, List.getElem?_eq_getElem (show 0 < R.length by omega), List.getElem?_eq_getElem (show 1 < R.length by omega)] using this
        have g64 : ∀ j, R.getD j 0 < 64 := by
          intro j
          rcases Nat.lt_or_ge j R.length with h | h
          · have := Hlr.out R[j] (List.getElem_mem h)
            simpa [List.getD_eq_getElem?_getD, List.getElem?_eq_getElem h] using this
          · simp [List.getD_eq_getElem?_getD, List.getElem?_eq_none h]
        have hb64 : b < 64 := by rw [← Hb.out]; exact g64 1
        have G64 := Lib.hid g64; clear g64
        have hrn : R.length ≤ 64 := by omega
        have HownQ : Hid (∀ q, (wr.drewN q).ownsRow w1.heap.size 154 3 u4 dn.length (dn.flatMap runCells)) := Lib.hid (fun q => own_kp (S := fun _ => False) Hown.out ((Kp.refl _ _).drewN q) (fun _ h => h.elim))
        have hone := oneRun_of R a b Ha.out Hb.out hlen2
        have Hone := Lib.hid hone; clear hone
        go_wp2_with fail
        go_quiet (fail)
        go_wp2_with fail
        go_loopw [5] (fun n wz => ∃ m q : Nat, wz = wr.drewN q ∧ 2 ≤ m ∧ m ≤ R.length ∧ n = .int .i64 m ∧ ∀ i, i + 2 < m → R.getD (i + 2) 0 = b + (i + 1) * (b - a)) (fun n _ => R.length - (intOf n).toNat)
        case atStart => exact ⟨2, _, rfl, by omega, hlen2, rfl, fun i hi => by omega⟩
        case round =>
          obtain ⟨m, q, rfl, hm2, hmR, rfl, hmi⟩ := hrel
          have Hmi := Lib.hid hmi; clear hmi
          have e1 : IntKind.i64.wrap ((m : Int) - 1) = (m : Int) - 1 := IntWalk.i64_in _ (by omega)
          have e2 : (0 : Int) ≤ (m : Int) - 1 := by omega
          have e5 : (1 : Int) ≤ (m : Int) := by omega
          have e3 : ((m : Int) - 1).toNat = m - 1 := by omega
          have e4 : (m : Int) - 1 < (R.length : Int) := by omega
          have cy := Hcs.out (m - 1) (by omega)
          have y64 := G64.out (m - 1)
          obtain ⟨y, hy⟩ : ∃ y, R.getD (m - 1) 0 = y := ⟨_, rfl⟩
          rw [hy] at cy y64
          have Hy := Lib.hid hy; clear hy
          by_cases hlt : m < R.length
          · have cx := Hcs.out m hlt
            have x64 := G64.out m
            obtain ⟨x, hx⟩ : ∃ x, R.getD m 0 = x := ⟨_, rfl⟩
            rw [hx] at cx x64
            have Hx := Lib.hid hx; clear hx
            have hym : y = b + (m - 2) * (b - a) := by
              rw [← Hy.out]
              rcases Nat.lt_or_ge 2 m with h3 | h3
              · have := Hmi.out (m - 3) (by omega)
                rw [show m - 3 + 2 = m - 1 from by omega, show m - 3 + 1 = m - 2 from by omega] at this
                exact this
              · obtain rfl : m = 2 := by omega
                rw [Hb.out]; simp
            have hnext : b + (m - 1) * (b - a) = y + (b - a) := by
              rw [hym, Nat.add_assoc, ← Nat.succ_mul, show (m - 2).succ = m - 1 from by omega]
            have Hnext := Lib.hid hnext
            clear hym hnext
            cases hxy : ((x : Int) - y == (b : Int) - a) with
            | true =>
              have hxe : x = y + (b - a) := by rw [beq_iff_eq] at hxy; omega
              have Hxe := Lib.hid hxe; clear hxe
              go_wp2_with fail
              go_quiet (fail)
              go_wp2_with fail
              go_roundw
              case rel =>
                refine ⟨m + 1, _, rfl, by omega, by omega, by go_num, fun i hi => ?_⟩
                rcases Nat.lt_or_ge (i + 2) m with h3 | h3
                · exact Hmi.out i h3
                · obtain rfl : m = i + 2 := by omega
                  rw [Hx.out, Hxe.out, ← Hnext.out]; rfl
              case measure => simp [intOf]; omega
            | false =>
              have hne2 : R.getD m 0 ≠ b + (m - 1) * (b - a) := by
                rw [Hx.out, Hnext.out]
                rw [beq_eq_false_iff_ne] at hxy; omega
              have Hne2 := Lib.hid hne2; clear hne2
              have hO := Hone.out m hm2 hmR Hmi.out (fun _ => Hne2.out)
              rw [Hy.out] at hO
              by_cases hm : m = 2
              · by_cases hst : 1 < b - a
                · have HO := Lib.hid (hO.1 ⟨hm, hst⟩); clear hO
                  subst hm
                  obtain rfl : b = y := by rw [← Hb.out, ← Hy.out]
                  have hlt' : decide ((2 : Int) < (R.length : Int)) = true := by rw [decide_eq_true_eq]; omega
                  have hst' : (1 : Int) < (b : Int) - a := by omega
                  have z0 : IntKind.i64.wrap 0 = 0 := rfl
                  clear e1 e2 e3 e4 e5 cy hst
                  go_wp2_with fail
                  go_quiet (fail)
                  go_wp2_with fail
                  go_region_law (refine step_append_lies _ (by rfl) _ _ _ (by rfl) w1.heap.size 154 i0 _ 3 24 Tryz.underlying152 hi0 hz0 hz1 hz2 rfl (by omega) u4 dn.length (dn.flatMap runCells) (by rfl) (((HownQ.out _).alloc _).drew) ⟨wr.heap.size, 0, none⟩ 1 1 [.int .i64 a, .int .i64 a, .int .i64 1] (by rfl) (by rfl) (World.news_of_block (cs := #[.int .i64 a, .int .i64 a, .int .i64 1]) (t := 154) (fr := (0, 0)) (heap_alloc_new (wr.drewN _) _)) (by intro u hu; simp at hu; rcases hu with rfl | rfl | rfl <;> rfl) (by omega) (by unfold maxLen; omega) (by omega) (by simp; omega) (wr.heap.size + 1) (by simp) ?_; intro gg cap w2 hown2 hgrow2 hat2 hlt2)
                  all_goals
                    go_wp2_with fail
                    refine ⟨?_, by simp; omega⟩
                    exact RunsL.next (k := 1) (R := R) (run := (a, a, 1)) hbk hrc Hne.out (by rw [HO.out]) (by rw [HO.out]) Hcs.out Hpr.out Hlr.out Hrel.out hsum (by simpa [runCells] using hown2) Hbw.out hB Hb1.out.size ((((Kp.refl _ wr).drewN _).alloc _).trans ((kp_grown hgrow2).mono (fun i hi => (Hown.out.lt i hi).1))) (by first | (intro _; rfl) | (intro h; rw [if_neg (by omega)]) | (intro h; simp at h))
                · have HO := Lib.hid (hO.2 (by omega)); clear hO
                  have hm' : ((m : Int) == 2) = true := by rw [beq_iff_eq]; omega
                  have hst' : decide ((1 : Int) < (b : Int) - a) = false := by rw [decide_eq_false_iff_not]; omega
                  clear hm hst
                  go_wp2_with fail
                  go_quiet (fail)
                  go_wp2_with fail
                  go_region_law (refine step_append_lies _ (by rfl) _ _ _ (by rfl) w1.heap.size 154 i0 _ 3 24 Tryz.underlying152 hi0 hz0 hz1 hz2 rfl (by omega) u4 dn.length (dn.flatMap runCells) (by rfl) (((HownQ.out _).alloc _).drew) ⟨wr.heap.size, 0, none⟩ 1 1 [.int .i64 a, .int .i64 y, .int .i64 ((b : Int) - a)] (by rfl) (by rfl) (World.news_of_block (cs := #[.int .i64 a, .int .i64 y, .int .i64 ((b : Int) - a)]) (t := 154) (fr := (0, 0)) (heap_alloc_new (wr.drewN _) _)) (by intro u hu; simp at hu; rcases hu with rfl | rfl | rfl <;> rfl) (by omega) (by unfold maxLen; omega) (by omega) (by simp; omega) (wr.heap.size + 1) (by simp) ?_; intro gg cap w2 hown2 hgrow2 hat2 hlt2)
                  all_goals
                    go_wp2_with fail
                    refine ⟨?_, by simp; omega⟩
                    exact RunsL.next (k := m) (R := R) (run := (a, y, b - a)) hbk hrc Hne.out (by rw [HO.out]) (by rw [HO.out]) Hcs.out Hpr.out Hlr.out Hrel.out hsum (by rw [show ((b : Int) - a) = ((b - a : Nat) : Int) from by omega] at hown2; simpa [runCells] using hown2) Hbw.out hB Hb1.out.size ((((Kp.refl _ wr).drewN _).alloc _).trans ((kp_grown hgrow2).mono (fun i hi => (Hown.out.lt i hi).1))) (by first | (intro _; rfl) | (intro h; rw [if_neg (by omega)]) | (intro h; simp at h))
              · have HO := Lib.hid (hO.2 (by omega)); clear hO
                have hm' : ((m : Int) == 2) = false := by rw [beq_eq_false_iff_ne]; omega
                clear hm
                go_wp2_with fail
                go_quiet (fail)
                go_wp2_with fail
                go_region_law (refine step_append_lies _ (by rfl) _ _ _ (by rfl) w1.heap.size 154 i0 _ 3 24 Tryz.underlying152 hi0 hz0 hz1 hz2 rfl (by omega) u4 dn.length (dn.flatMap runCells) (by rfl) (((HownQ.out _).alloc _).drew) ⟨wr.heap.size, 0, none⟩ 1 1 [.int .i64 a, .int .i64 y, .int .i64 ((b : Int) - a)] (by rfl) (by rfl) (World.news_of_block (cs := #[.int .i64 a, .int .i64 y, .int .i64 ((b : Int) - a)]) (t := 154) (fr := (0, 0)) (heap_alloc_new (wr.drewN _) _)) (by intro u hu; simp at hu; rcases hu with rfl | rfl | rfl <;> rfl) (by omega) (by unfold maxLen; omega) (by omega) (by simp; omega) (wr.heap.size + 1) (by simp) ?_; intro gg cap w2 hown2 hgrow2 hat2 hlt2)
                all_goals
                  go_wp2_with fail
                  refine ⟨?_, by simp; omega⟩
                  exact RunsL.next (k := m) (R := R) (run := (a, y, b - a)) hbk hrc Hne.out (by rw [HO.out]) (by rw [HO.out]) Hcs.out Hpr.out Hlr.out Hrel.out hsum (by rw [show ((b : Int) - a) = ((b - a : Nat) : Int) from by omega] at hown2; simpa [runCells] using hown2) Hbw.out hB Hb1.out.size ((((Kp.refl _ wr).drewN _).alloc _).trans ((kp_grown hgrow2).mono (fun i hi => (Hown.out.lt i hi).1))) (by first | (intro _; rfl) | (intro h; rw [if_neg (by omega)]) | (intro h; simp at h))
          · have hge : decide (m < R.length) = false := by rw [decide_eq_false_iff_not]; omega
            have hge' : decide ((m : Int) < (R.length : Int)) = false := by rw [decide_eq_false_iff_not]; omega
            have hge2 : m = R.length := by omega
            have Hge2 := Lib.hid hge2; clear hge2
            have hO := Hone.out m hm2 hmR Hmi.out (fun h => absurd h hlt)
            rw [Hy.out] at hO
            by_cases hm : m = 2
            · by_cases hst : 1 < b - a
              · have HO := Lib.hid (hO.1 ⟨hm, hst⟩); clear hO
                subst hm
                have hlt' : decide ((2 : Int) < (R.length : Int)) = false := by rw [decide_eq_false_iff_not]; omega
                have hst' : (1 : Int) < (b : Int) - a := by omega
                have z0 : IntKind.i64.wrap 0 = 0 := rfl
                clear e1 e2 e3 e4 e5 cy hst
                clear hlt
                go_wp2_with fail
                go_quiet (fail)
                go_wp2_with fail
                go_region_law (refine step_append_lies _ (by rfl) _ _ _ (by rfl) w1.heap.size 154 i0 _ 3 24 Tryz.underlying152 hi0 hz0 hz1 hz2 rfl (by omega) u4 dn.length (dn.flatMap runCells) (by rfl) (((HownQ.out _).alloc _).drew) ⟨wr.heap.size, 0, none⟩ 1 1 [.int .i64 a, .int .i64 a, .int .i64 1] (by rfl) (by rfl) (World.news_of_block (cs := #[.int .i64 a, .int .i64 a, .int .i64 1]) (t := 154) (fr := (0, 0)) (heap_alloc_new (wr.drewN _) _)) (by intro u hu; simp at hu; rcases hu with rfl | rfl | rfl <;> rfl) (by omega) (by unfold maxLen; omega) (by omega) (by simp; omega) (wr.heap.size + 1) (by simp) ?_; intro gg cap w2 hown2 hgrow2 hat2 hlt2)
                all_goals
                  go_wp2_with fail
                  refine ⟨?_, by simp; omega⟩
                  exact RunsL.next (k := 1) (R := R) (run := (a, a, 1)) hbk hrc Hne.out (by rw [HO.out]) (by rw [HO.out]) Hcs.out Hpr.out Hlr.out Hrel.out hsum (by simpa [runCells] using hown2) Hbw.out hB Hb1.out.size ((((Kp.refl _ wr).drewN _).alloc _).trans ((kp_grown hgrow2).mono (fun i hi => (Hown.out.lt i hi).1))) (by first | (intro _; rfl) | (intro h; rw [if_neg (by omega)]) | (intro h; simp at h))
              · have HO := Lib.hid (hO.2 (by omega)); clear hO
                have hm' : ((m : Int) == 2) = true := by rw [beq_iff_eq]; omega
                have hst' : decide ((1 : Int) < (b : Int) - a) = false := by rw [decide_eq_false_iff_not]; omega
                clear hm hst
                clear hlt
                go_wp2_with fail
                go_quiet (fail)
                go_wp2_with fail
                go_region_law (refine step_append_lies _ (by rfl) _ _ _ (by rfl) w1.heap.size 154 i0 _ 3 24 Tryz.underlying152 hi0 hz0 hz1 hz2 rfl (by omega) u4 dn.length (dn.flatMap runCells) (by rfl) (((HownQ.out _).alloc _).drew) ⟨wr.heap.size, 0, none⟩ 1 1 [.int .i64 a, .int .i64 y, .int .i64 ((b : Int) - a)] (by rfl) (by rfl) (World.news_of_block (cs := #[.int .i64 a, .int .i64 y, .int .i64 ((b : Int) - a)]) (t := 154) (fr := (0, 0)) (heap_alloc_new (wr.drewN _) _)) (by intro u hu; simp at hu; rcases hu with rfl | rfl | rfl <;> rfl) (by omega) (by unfold maxLen; omega) (by omega) (by simp; omega) (wr.heap.size + 1) (by simp) ?_; intro gg cap w2 hown2 hgrow2 hat2 hlt2)
                all_goals
                  go_wp2_with fail
                  refine ⟨?_, by simp; omega⟩
                  exact RunsL.next (k := m) (R := R) (run := (a, y, b - a)) hbk hrc Hne.out (by rw [HO.out]) (by rw [HO.out]) Hcs.out Hpr.out Hlr.out Hrel.out hsum (by rw [show ((b : Int) - a) = ((b - a : Nat) : Int) from by omega] at hown2; simpa [runCells] using hown2) Hbw.out hB Hb1.out.size ((((Kp.refl _ wr).drewN _).alloc _).trans ((kp_grown hgrow2).mono (fun i hi => (Hown.out.lt i hi).1))) (by first | (intro _; rfl) | (intro h; rw [if_neg (by omega)]) | (intro h; simp at h))
            · have HO := Lib.hid (hO.2 (by omega)); clear hO
              have hm' : ((m : Int) == 2) = false := by rw [beq_eq_false_iff_ne]; omega
              clear hm
              clear hlt
              go_wp2_with fail
              go_quiet (fail)
              go_wp2_with fail
              go_region_law (refine step_append_lies _ (by rfl) _ _ _ (by rfl) w1.heap.size 154 i0 _ 3 24 Tryz.underlying152 hi0 hz0 hz1 hz2 rfl (by omega) u4 dn.length (dn.flatMap runCells) (by rfl) (((HownQ.out _).alloc _).drew) ⟨wr.heap.size, 0, none⟩ 1 1 [.int .i64 a, .int .i64 y, .int .i64 ((b : Int) - a)] (by rfl) (by rfl) (World.news_of_block (cs := #[.int .i64 a, .int .i64 y, .int .i64 ((b : Int) - a)]) (t := 154) (fr := (0, 0)) (heap_alloc_new (wr.drewN _) _)) (by intro u hu; simp at hu; rcases hu with rfl | rfl | rfl <;> rfl) (by omega) (by unfold maxLen; omega) (by omega) (by simp; omega) (wr.heap.size + 1) (by simp) ?_; intro gg cap w2 hown2 hgrow2 hat2 hlt2)
              all_goals
                go_wp2_with fail
                refine ⟨?_, by simp; omega⟩
                exact RunsL.next (k := m) (R := R) (run := (a, y, b - a)) hbk hrc Hne.out (by rw [HO.out]) (by rw [HO.out]) Hcs.out Hpr.out Hlr.out Hrel.out hsum (by rw [show ((b : Int) - a) = ((b - a : Nat) : Int) from by omega] at hown2; simpa [runCells] using hown2) Hbw.out hB Hb1.out.size ((((Kp.refl _ wr).drewN _).alloc _).trans ((kp_grown hgrow2).mono (fun i hi => (Hown.out.lt i hi).1))) (by first | (intro _; rfl) | (intro h; rw [if_neg (by omega)]) | (intro h; simp at h))

end Go.Proofs.YtjnlgaeedcklaaaGreatDoor
