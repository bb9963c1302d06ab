/-
  The program's text: Print.
-/
import Derived.Test.YtjnlgaeedcklaaaGreatDoorFNameP
import Derived.Test.YtjnlgaeedcklaaaGreatDoorFRunsP
import Derived.Deep.AppendLies
import Derived.Maps.AppendAt
set_option linter.unusedVariables false
set_option linter.unusedSimpArgs false
namespace Go.Proofs.YtjnlgaeedcklaaaGreatDoor
open Go.RowKit

theorem info_str : (Tryz.prog.info? 9).map (fun i => (i.zero, i.size, i.bytes)) = some (some (.string ByteArray.empty), 1, 16) := by kernel_rfl

theorem join_eq (l : List (List UInt8)) : Lib.join l [44] = Fs.joinB l := by
  induction l with
  | nil => rfl
  | cons a l ih =>
    by_cases hl : l = []
    · subst hl; rw [Lib.join_one]; rfl
    · rw [Fs.joinB_cons _ _ hl, ← ih]
      obtain ⟨b, l, rfl⟩ := List.exists_cons_of_ne_nil hl
      simp [Lib.join, List.intercalate]

theorem itoa_dig (n : Nat) (w : World) (hn : n < 100) : Calls Tryz.prog 83 #[.int .i64 n] w fun e w' => e = .returned (.string ⟨(Fs.dig n).toArray⟩) ∧ w = w' := by
  rw [← dig_eq n hn]
  exact (Tryz.strconv_Itoa_small n hn w).mono (by rintro e w' ⟨h1, h2⟩; exact ⟨h1, h2.symm⟩)

theorem cell_one_at {w : World} {v : Value} {t : TypeId} {g : Nat} (h : w.heap.size = g) : ∀ j u, [v][j]? = some u → (w.alloc (.cells #[v] t)).cell? ((⟨g, 0, none⟩ : Addr).add j) = some u := by
  subst h; exact cell_one_new w v t

/-- A text as a string of Go's. -/
def strOf (t : List UInt8) : ByteArray := ⟨t.toArray⟩
theorem strOf_data (t : List UInt8) : (strOf t).data.toList = t := rfl

/-- The state of the loop over the ranges. -/
def PpL (rs : List (Nat × Nat × Nat)) (w : World) (g : Nat) (out i : Value) (wr : World) : Prop :=
  ∃ n : Nat, n ≤ rs.length ∧ i = .int .i64 n ∧ wr.ownsRow w.heap.size 9 1 out n (((rs.take n).map Fs.runText).map fun t => Value.string (strOf t)) ∧ Below w.heap.size w wr ∧
    (∀ j u, (rs.flatMap runCells)[j]? = some u → wr.cell? ⟨g, j, none⟩ = some u) ∧ g < wr.heap.size ∧ (∀ k, out.ownBlock = some k → k ≠ g)

theorem PpL.next {rs : List (Nat × Nat × Nat)} {w wr w2 : World} {g n : Nat} {out out2 : Value} {r : Nat × Nat × Nat} {X : ByteArray} {o1 o2 : Obj} (h : n < rs.length) (hr : rs[n] = r) (hX : X = strOf (Fs.runText r)) (hb : Below w.heap.size w wr)
    (hcs : ∀ j u, (rs.flatMap runCells)[j]? = some u → wr.cell? ⟨g, j, none⟩ = some u) (hg : g < wr.heap.size) (hne : ∀ k, out.ownBlock = some k → k ≠ g) (hlt : ∀ k, out.ownBlock = some k → w.heap.size ≤ k)
    (hown2 : w2.ownsRow w.heap.size 9 1 out2 (n + 1) ((((rs.take n).map Fs.runText).map fun t => Value.string (strOf t)) ++ [.string X])) (hgrow : ((wr.alloc o1).alloc o2).grownBy w2 out.ownBlock) (hat : ∀ k, out2.ownBlock = some k → out.ownBlock = some k ∨ wr.heap.size ≤ k) :
    PpL rs w g out2 (.int .i64 ((n : Int) + 1)) w2 := by
  have hk := kp_grown hgrow
  refine ⟨n + 1, h, by go_num, ?_, Kp.below ((hb.alloc hb.size o1).alloc (by have := hb.size; simp; omega) o2) hk (by have := hb.size; simp; omega) (fun i hi => hlt i hi), fun j u hj => ?_, ?_, fun k hk2 => ?_⟩
  · rw [List.take_succ_eq_append_getElem h, hr]
    rw [hX] at hown2
    simpa using hown2
  · have h1 := hcs j u hj
    rw [← h1]
    have h2 : ((wr.alloc o1).alloc o2).heap[g]? = wr.heap[g]? := (Below.heap_alloc _ _ _ (by simp; omega)).trans (Below.heap_alloc _ _ _ hg)
    exact World.cell?_of_block ((hk.block g (by simp; omega) (fun e => hne g e rfl)).trans h2)
  · have := hk.size; simp at this; omega
  · rcases hat k hk2 with h | h
    · exact hne k h
    · omega

set_option maxRecDepth 100000 in
set_option maxHeartbeats 2000000 in
theorem field_Print (w : World) (lo hi : Int) (A : Option Addr) (c : Nat) (l : List ByteArray) (week : Bool) (s : Nat) (star : Bool) (h1 : -9223372036854775808 ≤ lo) (h2 : lo ≤ 9223372036854775807) (h3 : -9223372036854775808 ≤ hi) (h4 : hi ≤ 9223372036854775807)
    (hn : l.length ≤ 1000) (hcc : l.length ≤ c) (hA : Names w w.heap.size A l) (hsz : ∀ s ∈ l, s.size ≤ 1000) (hs : s < 18446744073709551616) (hT : Tabs w) :
    Calls Tryz.prog 50 #[.agg #[.int .i64 lo, .int .i64 hi, .slice A l.length c, .bool week], .int .u64 s, .bool star] w fun e w' =>
      e = .returned (retPrint (Fs.printB (kind lo hi l week) s star)) ∧ Below w.heap.size w w' := by
  have HA := Lib.hid hA; clear hA
  have HT := Lib.hid hT; clear hT
  have hfu : ∀ W, Names W W.heap.size A l → Calls Tryz.prog 81 #[.agg #[.int .i64 lo, .int .i64 hi, .slice A l.length c, .bool week]] W fun e w' => e = .returned (retFull (Fs.fullB (kind lo hi l week))) ∧ Below W.heap.size W w' := fun W hW => field_Full W lo hi A c l week h1 h2 h3 h4 hn hcc hW hsz
  generalize hr : Fs.printB (kind lo hi l week) s star = r
  cases hb : Fs.checkB (kind lo hi l week) with
  | false =>
    have e1 : r = ([], 2) := by rw [← hr, Fs.printB, hb]; simp
    subst e1
    simp only [Fs.fullB, hb, retFull, Bool.false_eq_true, if_false] at hfu
    have HF := Lib.hid hfu; clear hfu hsz hb hr
    go_enter Tryz.func50, Tryz.ntmps50
    go_wp2_with (first | (go_at_call 81; ((with_reducible refine (HF.out _ (HA.out.alloc _)).mono ?_)); rintro e w1 ⟨rfl, hb1⟩))
    go_ret2
    exact ⟨rfl, ((Below.refl _ _).alloc (Nat.le_refl _) _).trans (hb1.mono (by simp))⟩
  | true =>
    have hfl : Fs.full (kind lo hi l week) < 18446744073709551616 := by
      obtain ⟨b1, b2, b3, b4, b5⟩ := check_bounds hb
      obtain ⟨lon, rfl⟩ := Int.eq_ofNat_of_zero_le b1
      obtain ⟨hin, rfl⟩ := Int.eq_ofNat_of_zero_le b4
      rw [full_eq lon hin _ _ (by simpa using b3.1)]
      exact fill_lt _ _ (by have := b3.1; have := b3.2.1; simp at *; omega)
    simp only [Fs.fullB, hb, retFull, if_true] at hfu
    have hin := inside_iff s (Fs.full (kind lo hi l week)) hs hfl
    have hbit := u64_andNot_nat s (Fs.full (kind lo hi l week)) hs hfl
    have hpr : r = if s = 0 ∨ s &&& Fs.full (kind lo hi l week) ≠ s ∨ (star = true ∧ s ≠ Fs.full (kind lo hi l week)) then ([], 2) else if star then ([42], 0) else (Fs.joinB ((Fs.runsOf s).map Fs.runText), 0) := by
      rw [← hr, Fs.printB, hb]; simp
    generalize Fs.full (kind lo hi l week) = fu at hfu hfl hin hbit hpr
    have HF := Lib.hid hfu
    have Hin := Lib.hid hin
    have Hbit := Lib.hid hbit
    have Hpr := Lib.hid hpr
    have hio := fun W => bits_Inside s fu W hs hfl
    have Hio := Lib.hid hio
    clear hfu hsz hb hr hin hbit hpr hio
    by_cases hs0 : s = 0
    · have e1 := Hpr.out
      rw [if_pos (.inl hs0)] at e1
      subst e1
      have hb0 : ((s : Int) == 0) = true := by rw [beq_iff_eq]; omega
      clear hs0
      go_enter Tryz.func50, Tryz.ntmps50
      go_wp2_with (first | (go_at_call 81; ((with_reducible refine (HF.out _ (HA.out.alloc _)).mono ?_)); rintro e w1 ⟨rfl, hb1⟩))
      go_ret2
      exact ⟨rfl, ((Below.refl _ _).alloc (Nat.le_refl _) _).trans (hb1.mono (by simp))⟩
    · have hb0 : ((s : Int) == 0) = false := by rw [beq_eq_false_iff_ne]; omega
      by_cases hsub : s &&& fu = s
      · have HI : Hid (∀ W : World, Calls Tryz.prog 55 #[.int .u64 s, .int .u64 fu] W fun e w' => e = .returned (.bool true) ∧ W = w') := Lib.hid (fun W => by have := Hio.out W; rw [decide_eq_true (Hin.out.2 hsub)] at this; exact this)
        cases star with
        | true =>
          by_cases hsf : s = fu
          · have e1 := Hpr.out
            rw [if_neg (by rintro (h | h | h); exact hs0 h; exact h hsub; exact h.2 hsf), if_pos rfl] at e1
            subst e1
            have hy : ((s : Int) != (fu : Int)) = false := by rw [hsf]; simp
            clear hs0 hsub hsf
            go_enter Tryz.func50, Tryz.ntmps50
            go_wp2_with (first | (go_at_call 81; ((with_reducible refine (HF.out _ (HA.out.alloc _)).mono ?_)); rintro e w1 ⟨rfl, hb1⟩) | (go_at_call 55; ((with_reducible refine (HI.out _).mono ?_)); rintro e w2 ⟨rfl, rfl⟩))
            go_ret2
            exact ⟨rfl, ((Below.refl _ _).alloc (Nat.le_refl _) _).trans (hb1.mono (by simp))⟩
          · have e1 := Hpr.out
            rw [if_pos (.inr (.inr ⟨rfl, hsf⟩))] at e1
            subst e1
            have hy : ((s : Int) != (fu : Int)) = true := by rw [bne_iff_ne]; omega
            clear hs0 hsub hsf
            go_enter Tryz.func50, Tryz.ntmps50
            go_wp2_with (first | (go_at_call 81; ((with_reducible refine (HF.out _ (HA.out.alloc _)).mono ?_)); rintro e w1 ⟨rfl, hb1⟩) | (go_at_call 55; ((with_reducible refine (HI.out _).mono ?_)); rintro e w2 ⟨rfl, rfl⟩))
            go_ret2
            exact ⟨rfl, ((Below.refl _ _).alloc (Nat.le_refl _) _).trans (hb1.mono (by simp))⟩
        | false =>
          have e1 := Hpr.out
          rw [if_neg (by rintro (h | h | h); exact hs0 h; exact h hsub; cases h.1), if_neg (by simp)] at e1
          subst e1
          have hRu : ∀ W, Tabs W → Calls Tryz.prog 82 #[.int .u64 s] W fun e w' => ∃ v, e = .returned v ∧ w'.ownsRow W.heap.size 154 3 v (Fs.runsOf s).length ((Fs.runsOf s).flatMap runCells) ∧ Below W.heap.size W w' := fun W h => bits_Runs s W hs h
          have hok := (Fs.runs_ok (Fs.elsOf s 64).length (Fs.elsOf s 64) (Nat.le_refl _) (Fs.elsOf_sorted s 64)).1
          have hel : ∀ x ∈ Fs.elsOf s 64, x < 64 := fun x h => (Fs.elsOf_mem.1 h).1
          have hrs : Fs.runsOf s = Fs.runs (Fs.elsOf s 64).length (Fs.elsOf s 64) := rfl
          rw [← hrs] at hok
          have hlen64 : (Fs.runsOf s).length ≤ 64 := runs_len s
          have hne0 : Fs.runsOf s ≠ [] := runsOf_ne s hs0 hs
          generalize Fs.runsOf s = rs at *
          have HRu := Lib.hid hRu
          have Hok := Lib.hid hok
          have Hne := Lib.hid hne0
          have Hel := Lib.hid hel
          obtain ⟨i0, hi0, hz0, hz1, hz2⟩ := info_parts info_str
          clear hs0 hsub hRu hok hel hrs hne0
          go_enter Tryz.func50, Tryz.ntmps50
          go_wp2_with (first
            | (go_at_call 81; ((with_reducible refine (HF.out _ (HA.out.alloc _)).mono ?_)); rintro e w1 ⟨rfl, hb1⟩; have HT1 : Hid (Tabs w1) := Lib.hid ((HT.out.alloc _).grow hb1))
            | (go_at_call 55; ((with_reducible refine (HI.out _).mono ?_)); rintro e w2 ⟨rfl, rfl⟩)
            | (go_at_call 82; ((with_reducible refine (HRu.out _ HT1.out).mono ?_)); rintro e w2 ⟨v, rfl, hown, hb2⟩; have Hown := Lib.hid hown; obtain ⟨g, cap, rfl, hg1, hg2⟩ := hown.form (Nat.pos_of_ne_zero (fun h => Hne.out (List.length_eq_zero_iff.1 h)))))
          have Hcells := Lib.hid (Hown.out.cells (g := g) rfl)
          have Hcl : Hid (∀ j u, (rs.flatMap runCells)[j]? = some u → w2.cell? ⟨g, j, none⟩ = some u) := Lib.hid (by
            intro j u hj
            have := Hcells.out j u hj
            rcases j with _ | j
            · simpa [Addr.add] using this
            · simpa [Addr.add] using this)
          have Hbw : Hid (Below w.heap.size w w2) := Lib.hid ((((Below.refl _ _).alloc (Nat.le_refl _) _).trans (hb1.mono (by simp))).trans (hb2.mono (by have := hb1.size; simp at this; omega)))
          clear hown hb1 hb2 Hcells Hown
          go_loopw [10, 45] (fun out i wr => PpL rs w g out i wr) (fun _ i _ => rs.length - (intOf i).toNat)
          case atStart => exact ⟨0, by omega, rfl, World.ownsRow_nil _ _ _ _, Hbw.out, Hcl.out, hg2, fun k h => by cases h⟩
          case round =>
            obtain ⟨n, hnl, rfl, hown, hbw, hcs, hg, hneg⟩ := hrel
            have Hbwr := Lib.hid hbw
            have Hcs := Lib.hid hcs
            have Hown := Lib.hid hown
            have Hneg := Lib.hid hneg
            clear hbw hcs hown hneg
            by_cases hlt : n < rs.length
            · have hgt := flat3_get rs n hlt
              have hro := Hok.out rs[n] (List.getElem_mem hlt)
              obtain ⟨r, hr⟩ : ∃ r, rs[n] = r := ⟨_, rfl⟩
              rw [hr] at hgt hro
              have Hr := Lib.hid hr
              obtain ⟨a, b, st⟩ := r
              obtain ⟨r1, r2, r3, r4, r5⟩ := hro
              have ha := Hel.out a r1
              have hbb := Hel.out b r2
              simp only at r3 r4 r5
              have hq : ∀ j u, j < 3 → (runCells (a, b, st))[j]? = some u → wr.cell? ⟨g, n * 3 + j, none⟩ = some u := fun j u hj hu => Hcs.out _ _ ((hgt j hj).trans hu)
              have q0 : wr.cell? ⟨g, n * 3, none⟩ = some (.int .i64 a) := hq 0 _ (by omega) rfl
              have q1 : wr.cell? ⟨g, n * 3 + 1, none⟩ = some (.int .i64 b) := hq 1 _ (by omega) rfl
              have q2 : wr.cell? ⟨g, n * 3 + 2, none⟩ = some (.int .i64 st) := hq 2 _ (by omega) rfl
              have Da := Lib.hid (fun W => itoa_dig a W (by omega))
              have Db := Lib.hid (fun W => itoa_dig b W (by omega))
              have Ds := Lib.hid (fun W => itoa_dig st W (by omega))
              have la := dig_len2 a
              have lb := dig_len2 b
              have ls := dig_len2 st
              clear hq hgt r1 r2 hr
              rcases r4 with ⟨r4, r6⟩ | r4
              · subst r4 r6
                go_wp2_with (first | (go_at_call 83; ((with_reducible refine (Da.out _).mono ?_)); rintro e w3 ⟨rfl, rfl⟩) | (at_builtin; refine wpList_append_lies _ rfl _ _ 58 rfl w.heap.size 9 i0 _ 1 16 Tryz.underlying58 hi0 hz0 hz1 hz2 rfl (by decide) u10 n (((rs.take n).map Fs.runText).map fun t => Value.string (strOf t)) rfl ((Hown.out.alloc _).alloc _) ⟨wr.heap.size + 1, 0, none⟩ 1 1 [.string (⟨(Fs.dig a).toArray⟩ : ByteArray)] rfl rfl (cell_one_at (by simp)) (by intro u hu; simp at hu; subst hu; rfl) (by omega) (by unfold maxLen; omega) (by omega) (by have := Hbwr.out.size; simp; omega) (wr.heap.size + 1 + 1) (by simp) ?_; intro g2 cap2 w2 hown2 hgrow2 hat2 hlt2))
                have hnext := PpL.next hlt Hr.out (X := ⟨(Fs.dig a).toArray⟩) (bytes_ext (by simp [strOf, Fs.runText, ])) Hbwr.out Hcs.out hg Hneg.out (fun k h => (Hown.out.lt k h).1) hown2 hgrow2 (by intro k hk; simp only [Value.ownBlock, Option.some.injEq] at hk; subst hk; rcases hat2 with h | h; exact .inl h; exact .inr (by omega))
                go_roundw
                case rel => exact hnext
                case measure => simp [intOf]; omega
              · have hab0 : ¬ a = b := by omega
                by_cases hst1 : st = 1
                · subst hst1
                  go_wp2_with (first | (go_at_call 83; ((with_reducible refine (Da.out _).mono ?_)); rintro e w3 ⟨rfl, rfl⟩) | (go_at_call 83; ((with_reducible refine (Db.out _).mono ?_)); rintro e w3 ⟨rfl, rfl⟩) | (at_builtin; refine wpList_append_lies _ rfl _ _ 58 rfl w.heap.size 9 i0 _ 1 16 Tryz.underlying58 hi0 hz0 hz1 hz2 rfl (by decide) u10 n (((rs.take n).map Fs.runText).map fun t => Value.string (strOf t)) rfl ((Hown.out.alloc _).alloc _) ⟨wr.heap.size + 1, 0, none⟩ 1 1 [.string ((ByteArray.mk (Fs.dig a).toArray ++ (ByteArray.mk #[45] ++ ByteArray.mk (Fs.dig b).toArray)) : ByteArray)] rfl rfl (cell_one_at (by simp)) (by intro u hu; simp at hu; subst hu; rfl) (by omega) (by unfold maxLen; omega) (by omega) (by have := Hbwr.out.size; simp; omega) (wr.heap.size + 1 + 1) (by simp) ?_; intro g2 cap2 w2 hown2 hgrow2 hat2 hlt2))
                  have hnext := PpL.next hlt Hr.out (X := (ByteArray.mk (Fs.dig a).toArray ++ (ByteArray.mk #[45] ++ ByteArray.mk (Fs.dig b).toArray))) (bytes_ext (by simp [strOf, Fs.runText, hab0, ])) Hbwr.out Hcs.out hg Hneg.out (fun k h => (Hown.out.lt k h).1) hown2 hgrow2 (by intro k hk; simp only [Value.ownBlock, Option.some.injEq] at hk; subst hk; rcases hat2 with h | h; exact .inl h; exact .inr (by omega))
                  go_roundw
                  case rel => exact hnext
                  case measure => simp [intOf]; omega
                · have hst2 : (1 : Int) < (st : Int) := by omega
                  go_wp2_with (first | (go_at_call 83; ((with_reducible refine (Da.out _).mono ?_)); rintro e w3 ⟨rfl, rfl⟩) | (go_at_call 83; ((with_reducible refine (Db.out _).mono ?_)); rintro e w3 ⟨rfl, rfl⟩) | (go_at_call 83; ((with_reducible refine (Ds.out _).mono ?_)); rintro e w3 ⟨rfl, rfl⟩) | (at_builtin; refine wpList_append_lies _ rfl _ _ 58 rfl w.heap.size 9 i0 _ 1 16 Tryz.underlying58 hi0 hz0 hz1 hz2 rfl (by decide) u10 n (((rs.take n).map Fs.runText).map fun t => Value.string (strOf t)) rfl ((Hown.out.alloc _).alloc _) ⟨wr.heap.size + 1, 0, none⟩ 1 1 [.string (((ByteArray.mk (Fs.dig a).toArray ++ (ByteArray.mk #[45] ++ ByteArray.mk (Fs.dig b).toArray)) ++ (ByteArray.mk #[47] ++ ByteArray.mk (Fs.dig st).toArray)) : ByteArray)] rfl rfl (cell_one_at (by simp)) (by intro u hu; simp at hu; subst hu; rfl) (by omega) (by unfold maxLen; omega) (by omega) (by have := Hbwr.out.size; simp; omega) (wr.heap.size + 1 + 1) (by simp) ?_; intro g2 cap2 w2 hown2 hgrow2 hat2 hlt2))
                  have hnext := PpL.next hlt Hr.out (X := ((ByteArray.mk (Fs.dig a).toArray ++ (ByteArray.mk #[45] ++ ByteArray.mk (Fs.dig b).toArray)) ++ (ByteArray.mk #[47] ++ ByteArray.mk (Fs.dig st).toArray))) (bytes_ext (by simp [strOf, Fs.runText, hab0, hst1, ])) Hbwr.out Hcs.out hg Hneg.out (fun k h => (Hown.out.lt k h).1) hown2 hgrow2 (by intro k hk; simp only [Value.ownBlock, Option.some.injEq] at hk; subst hk; rcases hat2 with h | h; exact .inl h; exact .inr (by omega))
                  go_roundw
                  case rel => exact hnext
                  case measure => simp [intOf]; omega
            · obtain rfl : n = rs.length := by omega
              have hpos : 0 < rs.length := Nat.pos_of_ne_zero (fun h => Hne.out (List.length_eq_zero_iff.1 h))
              have hout := Hown.out.form hpos
              obtain ⟨g3, cap3, rfl, hg3, hg4⟩ := hout
              have Hown3 := Hown.out
              rw [List.take_length] at Hown3
              have hcl3 : ∀ (j : Nat) x, ((rs.map Fs.runText).map strOf)[j]? = some x → wr.cell? ⟨g3, 0 + j, none⟩ = some (.string x) := by
                intro j x hj
                have h1 := Hown3.cells (g := g3) rfl j (.string x) (by rw [List.getElem?_map] at hj ⊢; rw [List.getElem?_map] at hj ⊢; cases hq : rs[j]? with
                  | none => rw [hq] at hj; cases hj
                  | some y => rw [hq] at hj; simp only [Option.map_some, Option.some.injEq] at hj ⊢; rw [hj])
                rw [Nat.zero_add]
                rcases j with _ | j
                · simpa [Addr.add] using h1
                · simpa [Addr.add] using h1
              have hjl : (Fs.joinB (rs.map Fs.runText)).length ≤ 9 * rs.length := by rw [← joinN_all]; exact joinN_len rs _ (Nat.le_refl _)
              have hmm : ((rs.map Fs.runText).map strOf).map (·.data.toList) = rs.map Fs.runText := by simp [Function.comp_def, strOf]
              have hcap3 : rs.length ≤ cap3 := by
                rcases Hown3.2 with ⟨h, _⟩ | ⟨g', cap', cur, h, _, _, h2, _⟩
                · cases h
                · injection h with h1 h2' h3'; omega
              have hJ := Tryz.strings_Join g3 0 cap3 ((rs.map Fs.runText).map strOf) ⟨#[44]⟩ wr hcl3 hg4 (by simp; omega) (by simpa using hcap3) (by rw [hmm]; show (Lib.join (rs.map Fs.runText) [44]).length ≤ _; rw [join_eq]; omega)
              rw [hmm] at hJ
              have hJ2 : Calls Tryz.prog 34 #[.slice (some ⟨g3, 0, none⟩) rs.length cap3, .string ⟨#[44]⟩] wr fun e w' => e = .returned (.string ⟨(Fs.joinB (rs.map Fs.runText)).toArray⟩) ∧ Below wr.heap.size wr w' := by
                have h : Lib.join (rs.map Fs.runText) (ByteArray.mk #[44]).data.toList = Fs.joinB (rs.map Fs.runText) := join_eq _
                rw [h] at hJ
                simpa using hJ
              have HJ := Lib.hid hJ2
              clear hJ hJ2 hmm hjl hcl3 Hown3
              go_wp2_with (go_at_call 34; ((with_reducible refine (HJ.out).mono ?_)); rintro e w3 ⟨rfl, hb3⟩)
              go_ret2
              exact ⟨rfl, Hbwr.out.trans (hb3.mono Hbwr.out.size)⟩
      · have e1 := Hpr.out
        rw [if_pos (.inr (.inl hsub))] at e1
        subst e1
        have HI : Hid (∀ W : World, Calls Tryz.prog 55 #[.int .u64 s, .int .u64 fu] W fun e w' => e = .returned (.bool false) ∧ W = w') := Lib.hid (fun W => by have := Hio.out W; rw [decide_eq_false (fun h => hsub (Hin.out.1 h))] at this; exact this)
        clear hs0 hsub
        go_enter Tryz.func50, Tryz.ntmps50
        go_wp2_with (first | (go_at_call 81; ((with_reducible refine (HF.out _ (HA.out.alloc _)).mono ?_)); rintro e w1 ⟨rfl, hb1⟩) | (go_at_call 55; ((with_reducible refine (HI.out _).mono ?_)); rintro e w2 ⟨rfl, rfl⟩))
        go_ret2
        exact ⟨rfl, ((Below.refl _ _).alloc (Nat.le_refl _) _).trans (hb1.mono (by simp))⟩

end Go.Proofs.YtjnlgaeedcklaaaGreatDoor
