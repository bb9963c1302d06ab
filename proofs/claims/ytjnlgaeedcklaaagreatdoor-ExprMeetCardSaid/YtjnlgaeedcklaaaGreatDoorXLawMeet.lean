/-
  ExprMeet: the walk, the row, the card.
-/
import Derived.Test.YtjnlgaeedcklaaaGreatDoorXRow
import Derived.Test.YtjnlgaeedcklaaaGreatDoorXMatch

import Derived.Test.YtjnlgaeedcklaaaGreatDoorXMade
import Derived.Test.YtjnlgaeedcklaaaGreatDoorXBoth
import Derived.Test.YtjnlgaeedcklaaaGreatDoorXOpenS
import Derived.Test.YtjnlgaeedcklaaaGreatDoorXWorks
set_option linter.unusedVariables false
set_option linter.unusedSimpArgs false
namespace Go.Proofs.YtjnlgaeedcklaaaGreatDoor.exprMeet
open Go.ChangeShapes Go.WideShapes Go.ChangeAt Go.RowKit

/-- What the loop over dates keeps. -/
structure MeetL (w : World) (ca cb cx cy : Array Value) (gA gB gX gY : Nat) (V : World) : Prop where
  ka : Blk V gA 25 ca
  kb : Blk V gB 25 cb
  kx : Blk V gX 25 cx
  ky : Blk V gY 25 cy
  bl : Below w.heap.size w V
theorem MeetL.grow {w V V' : World} {ca cb cx cy : Array Value} {gA gB gX gY : Nat} (h : MeetL w ca cb cx cy gA gB gX gY V) (hb : Below V.heap.size V V') : MeetL w ca cb cx cy gA gB gX gY V' :=
  ⟨h.ka.below hb h.ka.lt, h.kb.below hb h.kb.lt, h.kx.below hb h.kx.lt, h.ky.below hb h.ky.lt, h.bl.trans (hb.mono h.bl.size)⟩
theorem MeetL.alloc {w V : World} {ca cb cx cy : Array Value} {gA gB gX gY : Nat} (h : MeetL w ca cb cx cy gA gB gX gY V) (o : Obj) : MeetL w ca cb cx cy gA gB gX gY (V.alloc o) :=
  ⟨h.ka.alloc _, h.kb.alloc _, h.kx.alloc _, h.ky.alloc _, h.bl.alloc h.bl.size _⟩
theorem both_none {a b : Xs.Ex} (h : (Xs.bothV KX a b).2.1 = false) : (Xs.bothV KX a b).1 = Xs.Ex.zero := by
  unfold Xs.bothV at h ⊢
  split
  · rfl
  · rename_i d hd
    rw [hd] at h
    simp only at h
    split at h
    · cases h
    · rename_i hn
      rw [if_neg hn]
/-- What the first statement keeps: the boxes of the arguments, the new variables. -/
structure MeetS (w : World) (cs ct : Array Value) (gs : List Nat) (V : World) : Prop where
  s : Blk V w.heap.size 42 cs
  t : Blk V (w.heap.size + 1) 42 ct
  bl : Below w.heap.size w V
  z : ∀ g ∈ gs, Blk V g 25 zeroC ∧ w.heap.size + 2 ≤ g
  nd : gs.Nodup
theorem MeetS.grow {w V V' : World} {cs ct : Array Value} {gs : List Nat} (h : MeetS w cs ct gs V) (hb : Below V.heap.size V V') : MeetS w cs ct gs V' :=
  ⟨h.s.below hb h.s.lt, h.t.below hb h.t.lt, h.bl.trans (hb.mono h.bl.size), fun g hg => ⟨(h.z g hg).1.below hb (h.z g hg).1.lt, (h.z g hg).2⟩, h.nd⟩
theorem MeetS.alloc {w V : World} {cs ct : Array Value} {gs : List Nat} (h : MeetS w cs ct gs V) : MeetS w cs ct (V.heap.size :: gs) (V.alloc (.cells zeroC 25)) :=
  ⟨h.s.alloc _, h.t.alloc _, h.bl.alloc h.bl.size _, fun g hg => by
    rcases List.mem_cons.1 hg with rfl | hg
    · exact ⟨Blk.new V _ _, by have := h.t.lt; omega⟩
    · exact ⟨(h.z g hg).1.alloc _, (h.z g hg).2⟩, List.nodup_cons.2 ⟨fun hm => Nat.lt_irrefl _ (h.z _ hm).1.lt, h.nd⟩⟩
theorem MeetS.swap {w V : World} {cs ct : Array Value} {g h : Nat} (m : MeetS w cs ct [g, h] V) : MeetS w cs ct [h, g] V :=
  ⟨m.s, m.t, m.bl, fun x hx => m.z x (by simp at hx ⊢; exact hx.symm), by have := m.nd; simp at this ⊢; exact Ne.symm this⟩
theorem MeetS.two {w V : World} {cs ct : Array Value} {g h : Nat} (m : MeetS w cs ct [g, h] V) : Blk V g 25 zeroC ∧ Blk V h 25 zeroC ∧ g ≠ h ∧ w.heap.size + 2 ≤ g ∧ w.heap.size + 2 ≤ h :=
  ⟨(m.z g (by simp)).1, (m.z h (by simp)).1, by have := m.nd; simpa using this, (m.z g (by simp)).2, (m.z h (by simp)).2⟩

set_option maxRecDepth 100000 in
set_option maxHeartbeats 16000000 in
theorem walk (l0 : Nat → Nat) (k0 : Nat) (l1 : Nat → Nat) (k1 : Nat) (A : Option Addr) (n c : Nat) (hl0 : ∀ i, i < 6 → l0 i < 18446744073709551616) (hk0 : k0 < 256) (hl1 : ∀ i, i < 6 → l1 i < 18446744073709551616) (hk1 : k1 < 256)
    (hn : n ≤ c) (hc : c ≤ maxLen) (hA : A = none → c = 0) (w : World) (hX : TabX w) (hs : n = 0 ∨ ∃ b off, A = some ⟨b, off, none⟩ ∧ b < w.heap.size ∧ ∀ i, i < n → ∃ t : Nat → Nat, ∀ j, j < 6 → t j < 256 ∧ w.cell? ⟨b, off + (i * 6 + j), none⟩ = some (.int .u8 (t j))) :
    Calls Tryz.prog 7 #[setsV l0 k0, setsV l1 k1, .slice A n c] w fun e w' => e = .returned (.bool true) ∧ Below w.heap.size w w' := by
  have HX := Lib.hid hX; clear hX
  have HW := Lib.hid law_works
  obtain ⟨a, ha⟩ : ∃ x, madeX l0 (decide (k0 % 2 = 1)) (decide (k0 / 2 % 2 = 1)) = x := ⟨_, rfl⟩
  obtain ⟨b, hb⟩ : ∃ x, madeX l1 (decide (k1 % 2 = 1)) (decide (k1 / 2 % 2 = 1)) = x := ⟨_, rfl⟩
  have Hca : Hid (Xs.checkB KX a = true) := Lib.hid (ha ▸ made_check _ _ _)
  have Hcb : Hid (Xs.checkB KX b = true) := Lib.hid (hb ▸ made_check _ _ _)
  have HMa : Hid (∀ W, Calls Tryz.prog 25 #[setsV l0 k0] W fun e w' => e = .returned (exV a.second a.minute a.hour a.day a.month a.week a.anyDay a.anyWeek) ∧ Below W.heap.size W w') := Lib.hid fun W => by
    have := law_Made l0 k0 hl0 hk0 W
    rw [ha] at this
    exact this
  have HMb : Hid (∀ W, Calls Tryz.prog 25 #[setsV l1 k1] W fun e w' => e = .returned (exV b.second b.minute b.hour b.day b.month b.week b.anyDay b.anyWeek) ∧ Below W.heap.size W w') := Lib.hid fun W => by
    have := law_Made l1 k1 hl1 hk1 W
    rw [hb] at this
    exact this
  have Hs := Lib.hid hs
  obtain ⟨W0, hW0⟩ : ∃ W0, (w.alloc (.cells (setsC l0 k0) 42)).alloc (.cells (setsC l1 k1) 42) = W0 := ⟨_, rfl⟩
  have MW : Hid (MeetS w (setsC l0 k0) (setsC l1 k1) [] W0) := Lib.hid (hW0 ▸ ⟨(Blk.new w _ _).alloc _, by have := Blk.new (w.alloc (.cells (setsC l0 k0) 42)) 42 (setsC l1 k1); rw [World.size_alloc] at this; exact this, ((Below.refl _ _).alloc (Nat.le_refl _) _).alloc (by simp) _, fun _ h => absurd h List.not_mem_nil, List.nodup_nil⟩)
  have HW0 := Lib.hid hW0
  have hmu := yielded_undef
  clear ha hb hs hW0 hl0 hl1 hk0 hk1
  go_enter Tryz.func7, Tryz.ntmps7
  go_upto_region 1 with fail
  rw [HW0.out]
  clear HW0
  go_cut [7, 8] (fun s7 s8 wx => ∃ gA gB, s7 = .pointer (some ⟨gA, 0, none⟩) ∧ s8 = .pointer (some ⟨gB, 0, none⟩) ∧ gA ≠ gB ∧ w.heap.size + 2 ≤ gA ∧ w.heap.size + 2 ≤ gB ∧ Blk wx gA 25 (exC a.second a.minute a.hour a.day a.month a.week a.anyDay a.anyWeek) ∧ Blk wx gB 25 (exC b.second b.minute b.hour b.day b.month b.week b.anyDay b.anyWeek) ∧ Below w.heap.size w wx)
  case first =>
    refine wp_region_held_drew (S := fun V => Blk V w.heap.size 42 (setsC l0 k0) ∧ Blk V (w.heap.size + 1) 42 (setsC l1 k1)) (by kernel_rfl) ⟨MW.out.s.drew, MW.out.t.drew⟩ (fun hHeld => ?_)
    refine wpAnyH_take (i := 0) (oi := ?oi901) (v := ?vv901) ?hi901 (by kernel_rfl) (by kernel_rfl) (by kernel_rfl) ?hq901 (Or.inl ⟨?hw901, ?hy901⟩) (by assumption) ?rs901
    case hi901 => (simp only [Hg]; rfl)
    case hq901 => exact fun _ _ _ h => h
    case hw901 => rfl
    case hy901 => (intro w hSw; obtain ⟨sc, sf⟩ := hSw.1.facts; obtain ⟨tc, tf⟩ := hSw.2.facts; go_simp <;> with_reducible rfl)
    simp only [Hp]
    refine wpAnyH_take (i := 2) (oi := ?oi902) (v := ?vv902) ?hi902 (by kernel_rfl) (by kernel_rfl) (by kernel_rfl) ?hq902 (Or.inl ⟨?hw902, ?hy902⟩) (by assumption) ?rs902
    case hi902 => (simp only [Hg]; rfl)
    case hq902 => exact fun _ _ _ h => h
    case hw902 => rfl
    case hy902 => (intro w hSw; obtain ⟨sc, sf⟩ := hSw.1.facts; obtain ⟨tc, tf⟩ := hSw.2.facts; go_simp <;> with_reducible rfl)
    simp only [Hp]
    have m : MeetS w (setsC l0 k0) (setsC l1 k1) [] W0.drew := ⟨MW.out.s.drew, MW.out.t.drew, MW.out.bl.drew, MW.out.z, MW.out.nd⟩
    generalize W0.drew = V0 at m hHeld ⊢
    have MV0 := Lib.hid m
    clear m MW
    refine wpAnyH_ready (rs := [1, 4, 5]) (by kernel_rfl) (by simp) (AllReadyH.cons (o := ?oi1) ?hi1 (fun K hK => ?rs1) (AllReadyH.cons (o := ?oi2) ?hi2 (fun K hK => ?rs2) (AllReadyH.cons (o := ?oi3) ?hi3 (fun K hK => ?rs3) AllReadyH.nil)))
    case hi1 => (simp only [Hg]; rfl)
    case rs1 =>
     go_simp
     go_at_call 25; (with_reducible refine (HMa.out _).mono ?_); rintro e V1 ⟨rfl, hb⟩; have MV1 := Lib.hid (MV0.out.grow hb); clear hb
     refine hK.out _ _ ⟨MV1.out.s, MV1.out.t⟩ (fun hHeld => ?_)
     clear hK K; try simp only [Hp]
     refine wpAnyH_ready (rs := [3, 4, 5]) (by kernel_rfl) (by simp) (AllReadyH.cons (o := ?oi4) ?hi4 (fun K hK => ?rs4) (AllReadyH.cons (o := ?oi5) ?hi5 (fun K hK => ?rs5) (AllReadyH.cons (o := ?oi6) ?hi6 (fun K hK => ?rs6) AllReadyH.nil)))
     case hi4 => (simp only [Hg]; rfl)
     case rs4 =>
      go_simp
      go_at_call 25; (with_reducible refine (HMb.out _).mono ?_); rintro e V4 ⟨rfl, hb⟩; have MV4 := Lib.hid (MV1.out.grow hb); clear hb
      refine hK.out _ _ ⟨MV4.out.s, MV4.out.t⟩ (fun hHeld => ?_)
      clear hK K; try simp only [Hp]
      refine wpAnyH_ready (rs := [4, 5]) (by kernel_rfl) (by simp) (AllReadyH.cons (o := ?oi7) ?hi7 (fun K hK => ?rs7) (AllReadyH.cons (o := ?oi8) ?hi8 (fun K hK => ?rs8) AllReadyH.nil))
      case hi7 => (simp only [Hg]; rfl)
      case rs7 =>
       go_simp
       have m := MV4.out.alloc; generalize V4.alloc (.cells zeroC 25) = V7 at m ⊢; generalize V4.heap.size = g4 at m ⊢; have MV7 := Lib.hid m; clear m
       refine hK.out _ _ ⟨MV7.out.s, MV7.out.t⟩ (fun hHeld => ?_)
       clear hK K; try simp only [Hp]
       refine wpAnyH_ready (rs := [5]) (by kernel_rfl) (by simp) (AllReadyH.cons (o := ?oi9) ?hi9 (fun K hK => ?rs9) AllReadyH.nil)
       case hi9 => (simp only [Hg]; rfl)
       case rs9 =>
        go_simp
        have m := MV7.out.alloc; generalize V7.alloc (.cells zeroC 25) = V9 at m ⊢; generalize V7.heap.size = g5 at m ⊢; have MV9 := Lib.hid m; clear m
        refine hK.out _ _ ⟨MV9.out.s, MV9.out.t⟩ (fun hHeld => ?_)
        clear hK K; try simp only [Hp]
        obtain ⟨za, zb, hne, la, lb⟩ : Blk V9 g4 25 zeroC ∧ Blk V9 g5 25 zeroC ∧ g4 ≠ g5 ∧ w.heap.size + 2 ≤ g4 ∧ w.heap.size + 2 ≤ g5 := by first | exact MV9.out.two | exact MV9.out.swap.two
        obtain ⟨zc, zf⟩ := za.facts
        refine wpAnyH_ready (rs := [6]) (by kernel_rfl) (by simp) (AllReadyH.cons (o := ?oi10) ?hi10 (fun K hK => ?rs10) AllReadyH.nil)
        case hi10 => (simp only [Hg]; rfl)
        case rs10 =>
         clear hHeld
         go_simp
         refine hK.out _ _ ⟨MV9.out.s.far8 (by omega) (.int .u64 a.second) (.int .u64 a.minute) (.int .u64 a.hour) (.int .u64 a.day) (.int .u64 a.month) (.int .u64 a.week) (.bool a.anyDay) (.bool a.anyWeek), MV9.out.t.far8 (by omega) (.int .u64 a.second) (.int .u64 a.minute) (.int .u64 a.hour) (.int .u64 a.day) (.int .u64 a.month) (.int .u64 a.week) (.bool a.anyDay) (.bool a.anyWeek)⟩ (fun hHeld => ?_)
         clear hK K; try simp only [Hp]
         clear zc zf
         have m1 := za.set8 (.int .u64 a.second) (.int .u64 a.minute) (.int .u64 a.hour) (.int .u64 a.day) (.int .u64 a.month) (.int .u64 a.week) (.bool a.anyDay) (.bool a.anyWeek)
         have m2 := zb.far8 (Ne.symm hne) (.int .u64 a.second) (.int .u64 a.minute) (.int .u64 a.hour) (.int .u64 a.day) (.int .u64 a.month) (.int .u64 a.week) (.bool a.anyDay) (.bool a.anyWeek)
         have m3 := below_set8 MV9.out.bl (show w.heap.size ≤ g4 by omega) (.int .u64 a.second) (.int .u64 a.minute) (.int .u64 a.hour) (.int .u64 a.day) (.int .u64 a.month) (.int .u64 a.week) (.bool a.anyDay) (.bool a.anyWeek)
         have m4 := MV9.out.s.far8 (show w.heap.size ≠ g4 by omega) (.int .u64 a.second) (.int .u64 a.minute) (.int .u64 a.hour) (.int .u64 a.day) (.int .u64 a.month) (.int .u64 a.week) (.bool a.anyDay) (.bool a.anyWeek)
         have m5 := MV9.out.t.far8 (show w.heap.size + 1 ≠ g4 by omega) (.int .u64 a.second) (.int .u64 a.minute) (.int .u64 a.hour) (.int .u64 a.day) (.int .u64 a.month) (.int .u64 a.week) (.bool a.anyDay) (.bool a.anyWeek)
         unfold put8 at m1 m2 m3 m4 m5
         generalize World.setCell _ _ _ = VV at m1 m2 m3 m4 m5 ⊢
         obtain ⟨zc, zf⟩ := m2.facts
         refine wpAnyH_ready (rs := [7]) (by kernel_rfl) (by simp) (AllReadyH.cons (o := ?oi11) ?hi11 (fun K hK => ?rs11) AllReadyH.nil)
         case hi11 => (simp only [Hg]; rfl)
         case rs11 =>
          clear hHeld
          go_simp
          refine hK.out _ _ ⟨m4.far8 (by omega) (.int .u64 b.second) (.int .u64 b.minute) (.int .u64 b.hour) (.int .u64 b.day) (.int .u64 b.month) (.int .u64 b.week) (.bool b.anyDay) (.bool b.anyWeek), m5.far8 (by omega) (.int .u64 b.second) (.int .u64 b.minute) (.int .u64 b.hour) (.int .u64 b.day) (.int .u64 b.month) (.int .u64 b.week) (.bool b.anyDay) (.bool b.anyWeek)⟩ (fun hHeld => ?_)
          clear hK K; try simp only [Hp]
          refine wpAnyH_done (by kernel_rfl) ?_ _
          go_wp2_with fail
          go_meet
          exact ⟨g4, g5, rfl, rfl, hne, la, lb, m1.far8 hne (.int .u64 b.second) (.int .u64 b.minute) (.int .u64 b.hour) (.int .u64 b.day) (.int .u64 b.month) (.int .u64 b.week) (.bool b.anyDay) (.bool b.anyWeek), m2.set8 (.int .u64 b.second) (.int .u64 b.minute) (.int .u64 b.hour) (.int .u64 b.day) (.int .u64 b.month) (.int .u64 b.week) (.bool b.anyDay) (.bool b.anyWeek), below_set8 m3 (show w.heap.size ≤ g5 by omega) (.int .u64 b.second) (.int .u64 b.minute) (.int .u64 b.hour) (.int .u64 b.day) (.int .u64 b.month) (.int .u64 b.week) (.bool b.anyDay) (.bool b.anyWeek)⟩
      case hi8 => (simp only [Hg]; rfl)
      case rs8 =>
       go_simp
       have m := MV4.out.alloc; generalize V4.alloc (.cells zeroC 25) = V8 at m ⊢; generalize V4.heap.size = g5 at m ⊢; have MV8 := Lib.hid m; clear m
       refine hK.out _ _ ⟨MV8.out.s, MV8.out.t⟩ (fun hHeld => ?_)
       clear hK K; try simp only [Hp]
       refine wpAnyH_ready (rs := [4]) (by kernel_rfl) (by simp) (AllReadyH.cons (o := ?oi12) ?hi12 (fun K hK => ?rs12) AllReadyH.nil)
       case hi12 => (simp only [Hg]; rfl)
       case rs12 =>
        go_simp
        have m := MV8.out.alloc; generalize V8.alloc (.cells zeroC 25) = V12 at m ⊢; generalize V8.heap.size = g4 at m ⊢; have MV12 := Lib.hid m; clear m
        refine hK.out _ _ ⟨MV12.out.s, MV12.out.t⟩ (fun hHeld => ?_)
        clear hK K; try simp only [Hp]
        obtain ⟨za, zb, hne, la, lb⟩ : Blk V12 g4 25 zeroC ∧ Blk V12 g5 25 zeroC ∧ g4 ≠ g5 ∧ w.heap.size + 2 ≤ g4 ∧ w.heap.size + 2 ≤ g5 := by first | exact MV12.out.two | exact MV12.out.swap.two
        obtain ⟨zc, zf⟩ := za.facts
        refine wpAnyH_ready (rs := [6]) (by kernel_rfl) (by simp) (AllReadyH.cons (o := ?oi13) ?hi13 (fun K hK => ?rs13) AllReadyH.nil)
        case hi13 => (simp only [Hg]; rfl)
        case rs13 =>
         clear hHeld
         go_simp
         refine hK.out _ _ ⟨MV12.out.s.far8 (by omega) (.int .u64 a.second) (.int .u64 a.minute) (.int .u64 a.hour) (.int .u64 a.day) (.int .u64 a.month) (.int .u64 a.week) (.bool a.anyDay) (.bool a.anyWeek), MV12.out.t.far8 (by omega) (.int .u64 a.second) (.int .u64 a.minute) (.int .u64 a.hour) (.int .u64 a.day) (.int .u64 a.month) (.int .u64 a.week) (.bool a.anyDay) (.bool a.anyWeek)⟩ (fun hHeld => ?_)
         clear hK K; try simp only [Hp]
         clear zc zf
         have m1 := za.set8 (.int .u64 a.second) (.int .u64 a.minute) (.int .u64 a.hour) (.int .u64 a.day) (.int .u64 a.month) (.int .u64 a.week) (.bool a.anyDay) (.bool a.anyWeek)
         have m2 := zb.far8 (Ne.symm hne) (.int .u64 a.second) (.int .u64 a.minute) (.int .u64 a.hour) (.int .u64 a.day) (.int .u64 a.month) (.int .u64 a.week) (.bool a.anyDay) (.bool a.anyWeek)
         have m3 := below_set8 MV12.out.bl (show w.heap.size ≤ g4 by omega) (.int .u64 a.second) (.int .u64 a.minute) (.int .u64 a.hour) (.int .u64 a.day) (.int .u64 a.month) (.int .u64 a.week) (.bool a.anyDay) (.bool a.anyWeek)
         have m4 := MV12.out.s.far8 (show w.heap.size ≠ g4 by omega) (.int .u64 a.second) (.int .u64 a.minute) (.int .u64 a.hour) (.int .u64 a.day) (.int .u64 a.month) (.int .u64 a.week) (.bool a.anyDay) (.bool a.anyWeek)
         have m5 := MV12.out.t.far8 (show w.heap.size + 1 ≠ g4 by omega) (.int .u64 a.second) (.int .u64 a.minute) (.int .u64 a.hour) (.int .u64 a.day) (.int .u64 a.month) (.int .u64 a.week) (.bool a.anyDay) (.bool a.anyWeek)
         unfold put8 at m1 m2 m3 m4 m5
         generalize World.setCell _ _ _ = VV at m1 m2 m3 m4 m5 ⊢
         obtain ⟨zc, zf⟩ := m2.facts
         refine wpAnyH_ready (rs := [7]) (by kernel_rfl) (by simp) (AllReadyH.cons (o := ?oi14) ?hi14 (fun K hK => ?rs14) AllReadyH.nil)
         case hi14 => (simp only [Hg]; rfl)
         case rs14 =>
          clear hHeld
          go_simp
          refine hK.out _ _ ⟨m4.far8 (by omega) (.int .u64 b.second) (.int .u64 b.minute) (.int .u64 b.hour) (.int .u64 b.day) (.int .u64 b.month) (.int .u64 b.week) (.bool b.anyDay) (.bool b.anyWeek), m5.far8 (by omega) (.int .u64 b.second) (.int .u64 b.minute) (.int .u64 b.hour) (.int .u64 b.day) (.int .u64 b.month) (.int .u64 b.week) (.bool b.anyDay) (.bool b.anyWeek)⟩ (fun hHeld => ?_)
          clear hK K; try simp only [Hp]
          refine wpAnyH_done (by kernel_rfl) ?_ _
          go_wp2_with fail
          go_meet
          exact ⟨g4, g5, rfl, rfl, hne, la, lb, m1.far8 hne (.int .u64 b.second) (.int .u64 b.minute) (.int .u64 b.hour) (.int .u64 b.day) (.int .u64 b.month) (.int .u64 b.week) (.bool b.anyDay) (.bool b.anyWeek), m2.set8 (.int .u64 b.second) (.int .u64 b.minute) (.int .u64 b.hour) (.int .u64 b.day) (.int .u64 b.month) (.int .u64 b.week) (.bool b.anyDay) (.bool b.anyWeek), below_set8 m3 (show w.heap.size ≤ g5 by omega) (.int .u64 b.second) (.int .u64 b.minute) (.int .u64 b.hour) (.int .u64 b.day) (.int .u64 b.month) (.int .u64 b.week) (.bool b.anyDay) (.bool b.anyWeek)⟩
     case hi5 => (simp only [Hg]; rfl)
     case rs5 =>
      go_simp
      have m := MV1.out.alloc; generalize V1.alloc (.cells zeroC 25) = V5 at m ⊢; generalize V1.heap.size = g4 at m ⊢; have MV5 := Lib.hid m; clear m
      refine hK.out _ _ ⟨MV5.out.s, MV5.out.t⟩ (fun hHeld => ?_)
      clear hK K; try simp only [Hp]
      refine wpAnyH_ready (rs := [3, 5]) (by kernel_rfl) (by simp) (AllReadyH.cons (o := ?oi15) ?hi15 (fun K hK => ?rs15) (AllReadyH.cons (o := ?oi16) ?hi16 (fun K hK => ?rs16) AllReadyH.nil))
      case hi15 => (simp only [Hg]; rfl)
      case rs15 =>
       go_simp
       go_at_call 25; (with_reducible refine (HMb.out _).mono ?_); rintro e V15 ⟨rfl, hb⟩; have MV15 := Lib.hid (MV5.out.grow hb); clear hb
       refine hK.out _ _ ⟨MV15.out.s, MV15.out.t⟩ (fun hHeld => ?_)
       clear hK K; try simp only [Hp]
       refine wpAnyH_ready (rs := [5]) (by kernel_rfl) (by simp) (AllReadyH.cons (o := ?oi17) ?hi17 (fun K hK => ?rs17) AllReadyH.nil)
       case hi17 => (simp only [Hg]; rfl)
       case rs17 =>
        go_simp
        have m := MV15.out.alloc; generalize V15.alloc (.cells zeroC 25) = V17 at m ⊢; generalize V15.heap.size = g5 at m ⊢; have MV17 := Lib.hid m; clear m
        refine hK.out _ _ ⟨MV17.out.s, MV17.out.t⟩ (fun hHeld => ?_)
        clear hK K; try simp only [Hp]
        obtain ⟨za, zb, hne, la, lb⟩ : Blk V17 g4 25 zeroC ∧ Blk V17 g5 25 zeroC ∧ g4 ≠ g5 ∧ w.heap.size + 2 ≤ g4 ∧ w.heap.size + 2 ≤ g5 := by first | exact MV17.out.two | exact MV17.out.swap.two
        obtain ⟨zc, zf⟩ := za.facts
        refine wpAnyH_ready (rs := [6]) (by kernel_rfl) (by simp) (AllReadyH.cons (o := ?oi18) ?hi18 (fun K hK => ?rs18) AllReadyH.nil)
        case hi18 => (simp only [Hg]; rfl)
        case rs18 =>
         clear hHeld
         go_simp
         refine hK.out _ _ ⟨MV17.out.s.far8 (by omega) (.int .u64 a.second) (.int .u64 a.minute) (.int .u64 a.hour) (.int .u64 a.day) (.int .u64 a.month) (.int .u64 a.week) (.bool a.anyDay) (.bool a.anyWeek), MV17.out.t.far8 (by omega) (.int .u64 a.second) (.int .u64 a.minute) (.int .u64 a.hour) (.int .u64 a.day) (.int .u64 a.month) (.int .u64 a.week) (.bool a.anyDay) (.bool a.anyWeek)⟩ (fun hHeld => ?_)
         clear hK K; try simp only [Hp]
         clear zc zf
         have m1 := za.set8 (.int .u64 a.second) (.int .u64 a.minute) (.int .u64 a.hour) (.int .u64 a.day) (.int .u64 a.month) (.int .u64 a.week) (.bool a.anyDay) (.bool a.anyWeek)
         have m2 := zb.far8 (Ne.symm hne) (.int .u64 a.second) (.int .u64 a.minute) (.int .u64 a.hour) (.int .u64 a.day) (.int .u64 a.month) (.int .u64 a.week) (.bool a.anyDay) (.bool a.anyWeek)
         have m3 := below_set8 MV17.out.bl (show w.heap.size ≤ g4 by omega) (.int .u64 a.second) (.int .u64 a.minute) (.int .u64 a.hour) (.int .u64 a.day) (.int .u64 a.month) (.int .u64 a.week) (.bool a.anyDay) (.bool a.anyWeek)
         have m4 := MV17.out.s.far8 (show w.heap.size ≠ g4 by omega) (.int .u64 a.second) (.int .u64 a.minute) (.int .u64 a.hour) (.int .u64 a.day) (.int .u64 a.month) (.int .u64 a.week) (.bool a.anyDay) (.bool a.anyWeek)
         have m5 := MV17.out.t.far8 (show w.heap.size + 1 ≠ g4 by omega) (.int .u64 a.second) (.int .u64 a.minute) (.int .u64 a.hour) (.int .u64 a.day) (.int .u64 a.month) (.int .u64 a.week) (.bool a.anyDay) (.bool a.anyWeek)
         unfold put8 at m1 m2 m3 m4 m5
         generalize World.setCell _ _ _ = VV at m1 m2 m3 m4 m5 ⊢
         obtain ⟨zc, zf⟩ := m2.facts
         refine wpAnyH_ready (rs := [7]) (by kernel_rfl) (by simp) (AllReadyH.cons (o := ?oi19) ?hi19 (fun K hK => ?rs19) AllReadyH.nil)
         case hi19 => (simp only [Hg]; rfl)
         case rs19 =>
          clear hHeld
          go_simp
          refine hK.out _ _ ⟨m4.far8 (by omega) (.int .u64 b.second) (.int .u64 b.minute) (.int .u64 b.hour) (.int .u64 b.day) (.int .u64 b.month) (.int .u64 b.week) (.bool b.anyDay) (.bool b.anyWeek), m5.far8 (by omega) (.int .u64 b.second) (.int .u64 b.minute) (.int .u64 b.hour) (.int .u64 b.day) (.int .u64 b.month) (.int .u64 b.week) (.bool b.anyDay) (.bool b.anyWeek)⟩ (fun hHeld => ?_)
          clear hK K; try simp only [Hp]
          refine wpAnyH_done (by kernel_rfl) ?_ _
          go_wp2_with fail
          go_meet
          exact ⟨g4, g5, rfl, rfl, hne, la, lb, m1.far8 hne (.int .u64 b.second) (.int .u64 b.minute) (.int .u64 b.hour) (.int .u64 b.day) (.int .u64 b.month) (.int .u64 b.week) (.bool b.anyDay) (.bool b.anyWeek), m2.set8 (.int .u64 b.second) (.int .u64 b.minute) (.int .u64 b.hour) (.int .u64 b.day) (.int .u64 b.month) (.int .u64 b.week) (.bool b.anyDay) (.bool b.anyWeek), below_set8 m3 (show w.heap.size ≤ g5 by omega) (.int .u64 b.second) (.int .u64 b.minute) (.int .u64 b.hour) (.int .u64 b.day) (.int .u64 b.month) (.int .u64 b.week) (.bool b.anyDay) (.bool b.anyWeek)⟩
      case hi16 => (simp only [Hg]; rfl)
      case rs16 =>
       go_simp
       have m := MV5.out.alloc; generalize V5.alloc (.cells zeroC 25) = V16 at m ⊢; generalize V5.heap.size = g5 at m ⊢; have MV16 := Lib.hid m; clear m
       refine hK.out _ _ ⟨MV16.out.s, MV16.out.t⟩ (fun hHeld => ?_)
       clear hK K; try simp only [Hp]
       refine wpAnyH_ready (rs := [3]) (by kernel_rfl) (by simp) (AllReadyH.cons (o := ?oi20) ?hi20 (fun K hK => ?rs20) AllReadyH.nil)
       case hi20 => (simp only [Hg]; rfl)
       case rs20 =>
        go_simp
        go_at_call 25; (with_reducible refine (HMb.out _).mono ?_); rintro e V20 ⟨rfl, hb⟩; have MV20 := Lib.hid (MV16.out.grow hb); clear hb
        refine hK.out _ _ ⟨MV20.out.s, MV20.out.t⟩ (fun hHeld => ?_)
        clear hK K; try simp only [Hp]
        obtain ⟨za, zb, hne, la, lb⟩ : Blk V20 g4 25 zeroC ∧ Blk V20 g5 25 zeroC ∧ g4 ≠ g5 ∧ w.heap.size + 2 ≤ g4 ∧ w.heap.size + 2 ≤ g5 := by first | exact MV20.out.two | exact MV20.out.swap.two
        obtain ⟨zc, zf⟩ := za.facts
        refine wpAnyH_ready (rs := [6]) (by kernel_rfl) (by simp) (AllReadyH.cons (o := ?oi21) ?hi21 (fun K hK => ?rs21) AllReadyH.nil)
        case hi21 => (simp only [Hg]; rfl)
        case rs21 =>
         clear hHeld
         go_simp
         refine hK.out _ _ ⟨MV20.out.s.far8 (by omega) (.int .u64 a.second) (.int .u64 a.minute) (.int .u64 a.hour) (.int .u64 a.day) (.int .u64 a.month) (.int .u64 a.week) (.bool a.anyDay) (.bool a.anyWeek), MV20.out.t.far8 (by omega) (.int .u64 a.second) (.int .u64 a.minute) (.int .u64 a.hour) (.int .u64 a.day) (.int .u64 a.month) (.int .u64 a.week) (.bool a.anyDay) (.bool a.anyWeek)⟩ (fun hHeld => ?_)
         clear hK K; try simp only [Hp]
         clear zc zf
         have m1 := za.set8 (.int .u64 a.second) (.int .u64 a.minute) (.int .u64 a.hour) (.int .u64 a.day) (.int .u64 a.month) (.int .u64 a.week) (.bool a.anyDay) (.bool a.anyWeek)
         have m2 := zb.far8 (Ne.symm hne) (.int .u64 a.second) (.int .u64 a.minute) (.int .u64 a.hour) (.int .u64 a.day) (.int .u64 a.month) (.int .u64 a.week) (.bool a.anyDay) (.bool a.anyWeek)
         have m3 := below_set8 MV20.out.bl (show w.heap.size ≤ g4 by omega) (.int .u64 a.second) (.int .u64 a.minute) (.int .u64 a.hour) (.int .u64 a.day) (.int .u64 a.month) (.int .u64 a.week) (.bool a.anyDay) (.bool a.anyWeek)
         have m4 := MV20.out.s.far8 (show w.heap.size ≠ g4 by omega) (.int .u64 a.second) (.int .u64 a.minute) (.int .u64 a.hour) (.int .u64 a.day) (.int .u64 a.month) (.int .u64 a.week) (.bool a.anyDay) (.bool a.anyWeek)
         have m5 := MV20.out.t.far8 (show w.heap.size + 1 ≠ g4 by omega) (.int .u64 a.second) (.int .u64 a.minute) (.int .u64 a.hour) (.int .u64 a.day) (.int .u64 a.month) (.int .u64 a.week) (.bool a.anyDay) (.bool a.anyWeek)
         unfold put8 at m1 m2 m3 m4 m5
         generalize World.setCell _ _ _ = VV at m1 m2 m3 m4 m5 ⊢
         obtain ⟨zc, zf⟩ := m2.facts
         refine wpAnyH_ready (rs := [7]) (by kernel_rfl) (by simp) (AllReadyH.cons (o := ?oi22) ?hi22 (fun K hK => ?rs22) AllReadyH.nil)
         case hi22 => (simp only [Hg]; rfl)
         case rs22 =>
          clear hHeld
          go_simp
          refine hK.out _ _ ⟨m4.far8 (by omega) (.int .u64 b.second) (.int .u64 b.minute) (.int .u64 b.hour) (.int .u64 b.day) (.int .u64 b.month) (.int .u64 b.week) (.bool b.anyDay) (.bool b.anyWeek), m5.far8 (by omega) (.int .u64 b.second) (.int .u64 b.minute) (.int .u64 b.hour) (.int .u64 b.day) (.int .u64 b.month) (.int .u64 b.week) (.bool b.anyDay) (.bool b.anyWeek)⟩ (fun hHeld => ?_)
          clear hK K; try simp only [Hp]
          refine wpAnyH_done (by kernel_rfl) ?_ _
          go_wp2_with fail
          go_meet
          exact ⟨g4, g5, rfl, rfl, hne, la, lb, m1.far8 hne (.int .u64 b.second) (.int .u64 b.minute) (.int .u64 b.hour) (.int .u64 b.day) (.int .u64 b.month) (.int .u64 b.week) (.bool b.anyDay) (.bool b.anyWeek), m2.set8 (.int .u64 b.second) (.int .u64 b.minute) (.int .u64 b.hour) (.int .u64 b.day) (.int .u64 b.month) (.int .u64 b.week) (.bool b.anyDay) (.bool b.anyWeek), below_set8 m3 (show w.heap.size ≤ g5 by omega) (.int .u64 b.second) (.int .u64 b.minute) (.int .u64 b.hour) (.int .u64 b.day) (.int .u64 b.month) (.int .u64 b.week) (.bool b.anyDay) (.bool b.anyWeek)⟩
     case hi6 => (simp only [Hg]; rfl)
     case rs6 =>
      go_simp
      have m := MV1.out.alloc; generalize V1.alloc (.cells zeroC 25) = V6 at m ⊢; generalize V1.heap.size = g5 at m ⊢; have MV6 := Lib.hid m; clear m
      refine hK.out _ _ ⟨MV6.out.s, MV6.out.t⟩ (fun hHeld => ?_)
      clear hK K; try simp only [Hp]
      refine wpAnyH_ready (rs := [3, 4]) (by kernel_rfl) (by simp) (AllReadyH.cons (o := ?oi23) ?hi23 (fun K hK => ?rs23) (AllReadyH.cons (o := ?oi24) ?hi24 (fun K hK => ?rs24) AllReadyH.nil))
      case hi23 => (simp only [Hg]; rfl)
      case rs23 =>
       go_simp
       go_at_call 25; (with_reducible refine (HMb.out _).mono ?_); rintro e V23 ⟨rfl, hb⟩; have MV23 := Lib.hid (MV6.out.grow hb); clear hb
       refine hK.out _ _ ⟨MV23.out.s, MV23.out.t⟩ (fun hHeld => ?_)
       clear hK K; try simp only [Hp]
       refine wpAnyH_ready (rs := [4]) (by kernel_rfl) (by simp) (AllReadyH.cons (o := ?oi25) ?hi25 (fun K hK => ?rs25) AllReadyH.nil)
       case hi25 => (simp only [Hg]; rfl)
       case rs25 =>
        go_simp
        have m := MV23.out.alloc; generalize V23.alloc (.cells zeroC 25) = V25 at m ⊢; generalize V23.heap.size = g4 at m ⊢; have MV25 := Lib.hid m; clear m
        refine hK.out _ _ ⟨MV25.out.s, MV25.out.t⟩ (fun hHeld => ?_)
        clear hK K; try simp only [Hp]
        obtain ⟨za, zb, hne, la, lb⟩ : Blk V25 g4 25 zeroC ∧ Blk V25 g5 25 zeroC ∧ g4 ≠ g5 ∧ w.heap.size + 2 ≤ g4 ∧ w.heap.size + 2 ≤ g5 := by first | exact MV25.out.two | exact MV25.out.swap.two
        obtain ⟨zc, zf⟩ := za.facts
        refine wpAnyH_ready (rs := [6]) (by kernel_rfl) (by simp) (AllReadyH.cons (o := ?oi26) ?hi26 (fun K hK => ?rs26) AllReadyH.nil)
        case hi26 => (simp only [Hg]; rfl)
        case rs26 =>
         clear hHeld
         go_simp
         refine hK.out _ _ ⟨MV25.out.s.far8 (by omega) (.int .u64 a.second) (.int .u64 a.minute) (.int .u64 a.hour) (.int .u64 a.day) (.int .u64 a.month) (.int .u64 a.week) (.bool a.anyDay) (.bool a.anyWeek), MV25.out.t.far8 (by omega) (.int .u64 a.second) (.int .u64 a.minute) (.int .u64 a.hour) (.int .u64 a.day) (.int .u64 a.month) (.int .u64 a.week) (.bool a.anyDay) (.bool a.anyWeek)⟩ (fun hHeld => ?_)
         clear hK K; try simp only [Hp]
         clear zc zf
         have m1 := za.set8 (.int .u64 a.second) (.int .u64 a.minute) (.int .u64 a.hour) (.int .u64 a.day) (.int .u64 a.month) (.int .u64 a.week) (.bool a.anyDay) (.bool a.anyWeek)
         have m2 := zb.far8 (Ne.symm hne) (.int .u64 a.second) (.int .u64 a.minute) (.int .u64 a.hour) (.int .u64 a.day) (.int .u64 a.month) (.int .u64 a.week) (.bool a.anyDay) (.bool a.anyWeek)
         have m3 := below_set8 MV25.out.bl (show w.heap.size ≤ g4 by omega) (.int .u64 a.second) (.int .u64 a.minute) (.int .u64 a.hour) (.int .u64 a.day) (.int .u64 a.month) (.int .u64 a.week) (.bool a.anyDay) (.bool a.anyWeek)
         have m4 := MV25.out.s.far8 (show w.heap.size ≠ g4 by omega) (.int .u64 a.second) (.int .u64 a.minute) (.int .u64 a.hour) (.int .u64 a.day) (.int .u64 a.month) (.int .u64 a.week) (.bool a.anyDay) (.bool a.anyWeek)
         have m5 := MV25.out.t.far8 (show w.heap.size + 1 ≠ g4 by omega) (.int .u64 a.second) (.int .u64 a.minute) (.int .u64 a.hour) (.int .u64 a.day) (.int .u64 a.month) (.int .u64 a.week) (.bool a.anyDay) (.bool a.anyWeek)
         unfold put8 at m1 m2 m3 m4 m5
         generalize World.setCell _ _ _ = VV at m1 m2 m3 m4 m5 ⊢
         obtain ⟨zc, zf⟩ := m2.facts
         refine wpAnyH_ready (rs := [7]) (by kernel_rfl) (by simp) (AllReadyH.cons (o := ?oi27) ?hi27 (fun K hK => ?rs27) AllReadyH.nil)
         case hi27 => (simp only [Hg]; rfl)
         case rs27 =>
          clear hHeld
          go_simp
          refine hK.out _ _ ⟨m4.far8 (by omega) (.int .u64 b.second) (.int .u64 b.minute) (.int .u64 b.hour) (.int .u64 b.day) (.int .u64 b.month) (.int .u64 b.week) (.bool b.anyDay) (.bool b.anyWeek), m5.far8 (by omega) (.int .u64 b.second) (.int .u64 b.minute) (.int .u64 b.hour) (.int .u64 b.day) (.int .u64 b.month) (.int .u64 b.week) (.bool b.anyDay) (.bool b.anyWeek)⟩ (fun hHeld => ?_)
          clear hK K; try simp only [Hp]
          refine wpAnyH_done (by kernel_rfl) ?_ _
          go_wp2_with fail
          go_meet
          exact ⟨g4, g5, rfl, rfl, hne, la, lb, m1.far8 hne (.int .u64 b.second) (.int .u64 b.minute) (.int .u64 b.hour) (.int .u64 b.day) (.int .u64 b.month) (.int .u64 b.week) (.bool b.anyDay) (.bool b.anyWeek), m2.set8 (.int .u64 b.second) (.int .u64 b.minute) (.int .u64 b.hour) (.int .u64 b.day) (.int .u64 b.month) (.int .u64 b.week) (.bool b.anyDay) (.bool b.anyWeek), below_set8 m3 (show w.heap.size ≤ g5 by omega) (.int .u64 b.second) (.int .u64 b.minute) (.int .u64 b.hour) (.int .u64 b.day) (.int .u64 b.month) (.int .u64 b.week) (.bool b.anyDay) (.bool b.anyWeek)⟩
      case hi24 => (simp only [Hg]; rfl)
      case rs24 =>
       go_simp
       have m := MV6.out.alloc; generalize V6.alloc (.cells zeroC 25) = V24 at m ⊢; generalize V6.heap.size = g4 at m ⊢; have MV24 := Lib.hid m; clear m
       refine hK.out _ _ ⟨MV24.out.s, MV24.out.t⟩ (fun hHeld => ?_)
       clear hK K; try simp only [Hp]
       refine wpAnyH_ready (rs := [3]) (by kernel_rfl) (by simp) (AllReadyH.cons (o := ?oi28) ?hi28 (fun K hK => ?rs28) AllReadyH.nil)
       case hi28 => (simp only [Hg]; rfl)
       case rs28 =>
        go_simp
        go_at_call 25; (with_reducible refine (HMb.out _).mono ?_); rintro e V28 ⟨rfl, hb⟩; have MV28 := Lib.hid (MV24.out.grow hb); clear hb
        refine hK.out _ _ ⟨MV28.out.s, MV28.out.t⟩ (fun hHeld => ?_)
        clear hK K; try simp only [Hp]
        obtain ⟨za, zb, hne, la, lb⟩ : Blk V28 g4 25 zeroC ∧ Blk V28 g5 25 zeroC ∧ g4 ≠ g5 ∧ w.heap.size + 2 ≤ g4 ∧ w.heap.size + 2 ≤ g5 := by first | exact MV28.out.two | exact MV28.out.swap.two
        obtain ⟨zc, zf⟩ := za.facts
        refine wpAnyH_ready (rs := [6]) (by kernel_rfl) (by simp) (AllReadyH.cons (o := ?oi29) ?hi29 (fun K hK => ?rs29) AllReadyH.nil)
        case hi29 => (simp only [Hg]; rfl)
        case rs29 =>
         clear hHeld
         go_simp
         refine hK.out _ _ ⟨MV28.out.s.far8 (by omega) (.int .u64 a.second) (.int .u64 a.minute) (.int .u64 a.hour) (.int .u64 a.day) (.int .u64 a.month) (.int .u64 a.week) (.bool a.anyDay) (.bool a.anyWeek), MV28.out.t.far8 (by omega) (.int .u64 a.second) (.int .u64 a.minute) (.int .u64 a.hour) (.int .u64 a.day) (.int .u64 a.month) (.int .u64 a.week) (.bool a.anyDay) (.bool a.anyWeek)⟩ (fun hHeld => ?_)
         clear hK K; try simp only [Hp]
         clear zc zf
         have m1 := za.set8 (.int .u64 a.second) (.int .u64 a.minute) (.int .u64 a.hour) (.int .u64 a.day) (.int .u64 a.month) (.int .u64 a.week) (.bool a.anyDay) (.bool a.anyWeek)
         have m2 := zb.far8 (Ne.symm hne) (.int .u64 a.second) (.int .u64 a.minute) (.int .u64 a.hour) (.int .u64 a.day) (.int .u64 a.month) (.int .u64 a.week) (.bool a.anyDay) (.bool a.anyWeek)
         have m3 := below_set8 MV28.out.bl (show w.heap.size ≤ g4 by omega) (.int .u64 a.second) (.int .u64 a.minute) (.int .u64 a.hour) (.int .u64 a.day) (.int .u64 a.month) (.int .u64 a.week) (.bool a.anyDay) (.bool a.anyWeek)
         have m4 := MV28.out.s.far8 (show w.heap.size ≠ g4 by omega) (.int .u64 a.second) (.int .u64 a.minute) (.int .u64 a.hour) (.int .u64 a.day) (.int .u64 a.month) (.int .u64 a.week) (.bool a.anyDay) (.bool a.anyWeek)
         have m5 := MV28.out.t.far8 (show w.heap.size + 1 ≠ g4 by omega) (.int .u64 a.second) (.int .u64 a.minute) (.int .u64 a.hour) (.int .u64 a.day) (.int .u64 a.month) (.int .u64 a.week) (.bool a.anyDay) (.bool a.anyWeek)
         unfold put8 at m1 m2 m3 m4 m5
         generalize World.setCell _ _ _ = VV at m1 m2 m3 m4 m5 ⊢
         obtain ⟨zc, zf⟩ := m2.facts
         refine wpAnyH_ready (rs := [7]) (by kernel_rfl) (by simp) (AllReadyH.cons (o := ?oi30) ?hi30 (fun K hK => ?rs30) AllReadyH.nil)
         case hi30 => (simp only [Hg]; rfl)
         case rs30 =>
          clear hHeld
          go_simp
          refine hK.out _ _ ⟨m4.far8 (by omega) (.int .u64 b.second) (.int .u64 b.minute) (.int .u64 b.hour) (.int .u64 b.day) (.int .u64 b.month) (.int .u64 b.week) (.bool b.anyDay) (.bool b.anyWeek), m5.far8 (by omega) (.int .u64 b.second) (.int .u64 b.minute) (.int .u64 b.hour) (.int .u64 b.day) (.int .u64 b.month) (.int .u64 b.week) (.bool b.anyDay) (.bool b.anyWeek)⟩ (fun hHeld => ?_)
          clear hK K; try simp only [Hp]
          refine wpAnyH_done (by kernel_rfl) ?_ _
          go_wp2_with fail
          go_meet
          exact ⟨g4, g5, rfl, rfl, hne, la, lb, m1.far8 hne (.int .u64 b.second) (.int .u64 b.minute) (.int .u64 b.hour) (.int .u64 b.day) (.int .u64 b.month) (.int .u64 b.week) (.bool b.anyDay) (.bool b.anyWeek), m2.set8 (.int .u64 b.second) (.int .u64 b.minute) (.int .u64 b.hour) (.int .u64 b.day) (.int .u64 b.month) (.int .u64 b.week) (.bool b.anyDay) (.bool b.anyWeek), below_set8 m3 (show w.heap.size ≤ g5 by omega) (.int .u64 b.second) (.int .u64 b.minute) (.int .u64 b.hour) (.int .u64 b.day) (.int .u64 b.month) (.int .u64 b.week) (.bool b.anyDay) (.bool b.anyWeek)⟩
    case hi2 => (simp only [Hg]; rfl)
    case rs2 =>
     go_simp
     have m := MV0.out.alloc; generalize V0.alloc (.cells zeroC 25) = V2 at m ⊢; generalize V0.heap.size = g4 at m ⊢; have MV2 := Lib.hid m; clear m
     refine hK.out _ _ ⟨MV2.out.s, MV2.out.t⟩ (fun hHeld => ?_)
     clear hK K; try simp only [Hp]
     refine wpAnyH_ready (rs := [1, 5]) (by kernel_rfl) (by simp) (AllReadyH.cons (o := ?oi31) ?hi31 (fun K hK => ?rs31) (AllReadyH.cons (o := ?oi32) ?hi32 (fun K hK => ?rs32) AllReadyH.nil))
     case hi31 => (simp only [Hg]; rfl)
     case rs31 =>
      go_simp
      go_at_call 25; (with_reducible refine (HMa.out _).mono ?_); rintro e V31 ⟨rfl, hb⟩; have MV31 := Lib.hid (MV2.out.grow hb); clear hb
      refine hK.out _ _ ⟨MV31.out.s, MV31.out.t⟩ (fun hHeld => ?_)
      clear hK K; try simp only [Hp]
      refine wpAnyH_ready (rs := [3, 5]) (by kernel_rfl) (by simp) (AllReadyH.cons (o := ?oi33) ?hi33 (fun K hK => ?rs33) (AllReadyH.cons (o := ?oi34) ?hi34 (fun K hK => ?rs34) AllReadyH.nil))
      case hi33 => (simp only [Hg]; rfl)
      case rs33 =>
       go_simp
       go_at_call 25; (with_reducible refine (HMb.out _).mono ?_); rintro e V33 ⟨rfl, hb⟩; have MV33 := Lib.hid (MV31.out.grow hb); clear hb
       refine hK.out _ _ ⟨MV33.out.s, MV33.out.t⟩ (fun hHeld => ?_)
       clear hK K; try simp only [Hp]
       refine wpAnyH_ready (rs := [5]) (by kernel_rfl) (by simp) (AllReadyH.cons (o := ?oi35) ?hi35 (fun K hK => ?rs35) AllReadyH.nil)
       case hi35 => (simp only [Hg]; rfl)
       case rs35 =>
        go_simp
        have m := MV33.out.alloc; generalize V33.alloc (.cells zeroC 25) = V35 at m ⊢; generalize V33.heap.size = g5 at m ⊢; have MV35 := Lib.hid m; clear m
        refine hK.out _ _ ⟨MV35.out.s, MV35.out.t⟩ (fun hHeld => ?_)
        clear hK K; try simp only [Hp]
        obtain ⟨za, zb, hne, la, lb⟩ : Blk V35 g4 25 zeroC ∧ Blk V35 g5 25 zeroC ∧ g4 ≠ g5 ∧ w.heap.size + 2 ≤ g4 ∧ w.heap.size + 2 ≤ g5 := by first | exact MV35.out.two | exact MV35.out.swap.two
        obtain ⟨zc, zf⟩ := za.facts
        refine wpAnyH_ready (rs := [6]) (by kernel_rfl) (by simp) (AllReadyH.cons (o := ?oi36) ?hi36 (fun K hK => ?rs36) AllReadyH.nil)
        case hi36 => (simp only [Hg]; rfl)
        case rs36 =>
         clear hHeld
         go_simp
         refine hK.out _ _ ⟨MV35.out.s.far8 (by omega) (.int .u64 a.second) (.int .u64 a.minute) (.int .u64 a.hour) (.int .u64 a.day) (.int .u64 a.month) (.int .u64 a.week) (.bool a.anyDay) (.bool a.anyWeek), MV35.out.t.far8 (by omega) (.int .u64 a.second) (.int .u64 a.minute) (.int .u64 a.hour) (.int .u64 a.day) (.int .u64 a.month) (.int .u64 a.week) (.bool a.anyDay) (.bool a.anyWeek)⟩ (fun hHeld => ?_)
         clear hK K; try simp only [Hp]
         clear zc zf
         have m1 := za.set8 (.int .u64 a.second) (.int .u64 a.minute) (.int .u64 a.hour) (.int .u64 a.day) (.int .u64 a.month) (.int .u64 a.week) (.bool a.anyDay) (.bool a.anyWeek)
         have m2 := zb.far8 (Ne.symm hne) (.int .u64 a.second) (.int .u64 a.minute) (.int .u64 a.hour) (.int .u64 a.day) (.int .u64 a.month) (.int .u64 a.week) (.bool a.anyDay) (.bool a.anyWeek)
         have m3 := below_set8 MV35.out.bl (show w.heap.size ≤ g4 by omega) (.int .u64 a.second) (.int .u64 a.minute) (.int .u64 a.hour) (.int .u64 a.day) (.int .u64 a.month) (.int .u64 a.week) (.bool a.anyDay) (.bool a.anyWeek)
         have m4 := MV35.out.s.far8 (show w.heap.size ≠ g4 by omega) (.int .u64 a.second) (.int .u64 a.minute) (.int .u64 a.hour) (.int .u64 a.day) (.int .u64 a.month) (.int .u64 a.week) (.bool a.anyDay) (.bool a.anyWeek)
         have m5 := MV35.out.t.far8 (show w.heap.size + 1 ≠ g4 by omega) (.int .u64 a.second) (.int .u64 a.minute) (.int .u64 a.hour) (.int .u64 a.day) (.int .u64 a.month) (.int .u64 a.week) (.bool a.anyDay) (.bool a.anyWeek)
         unfold put8 at m1 m2 m3 m4 m5
         generalize World.setCell _ _ _ = VV at m1 m2 m3 m4 m5 ⊢
         obtain ⟨zc, zf⟩ := m2.facts
         refine wpAnyH_ready (rs := [7]) (by kernel_rfl) (by simp) (AllReadyH.cons (o := ?oi37) ?hi37 (fun K hK => ?rs37) AllReadyH.nil)
         case hi37 => (simp only [Hg]; rfl)
         case rs37 =>
          clear hHeld
          go_simp
          refine hK.out _ _ ⟨m4.far8 (by omega) (.int .u64 b.second) (.int .u64 b.minute) (.int .u64 b.hour) (.int .u64 b.day) (.int .u64 b.month) (.int .u64 b.week) (.bool b.anyDay) (.bool b.anyWeek), m5.far8 (by omega) (.int .u64 b.second) (.int .u64 b.minute) (.int .u64 b.hour) (.int .u64 b.day) (.int .u64 b.month) (.int .u64 b.week) (.bool b.anyDay) (.bool b.anyWeek)⟩ (fun hHeld => ?_)
          clear hK K; try simp only [Hp]
          refine wpAnyH_done (by kernel_rfl) ?_ _
          go_wp2_with fail
          go_meet
          exact ⟨g4, g5, rfl, rfl, hne, la, lb, m1.far8 hne (.int .u64 b.second) (.int .u64 b.minute) (.int .u64 b.hour) (.int .u64 b.day) (.int .u64 b.month) (.int .u64 b.week) (.bool b.anyDay) (.bool b.anyWeek), m2.set8 (.int .u64 b.second) (.int .u64 b.minute) (.int .u64 b.hour) (.int .u64 b.day) (.int .u64 b.month) (.int .u64 b.week) (.bool b.anyDay) (.bool b.anyWeek), below_set8 m3 (show w.heap.size ≤ g5 by omega) (.int .u64 b.second) (.int .u64 b.minute) (.int .u64 b.hour) (.int .u64 b.day) (.int .u64 b.month) (.int .u64 b.week) (.bool b.anyDay) (.bool b.anyWeek)⟩
      case hi34 => (simp only [Hg]; rfl)
      case rs34 =>
       go_simp
       have m := MV31.out.alloc; generalize V31.alloc (.cells zeroC 25) = V34 at m ⊢; generalize V31.heap.size = g5 at m ⊢; have MV34 := Lib.hid m; clear m
       refine hK.out _ _ ⟨MV34.out.s, MV34.out.t⟩ (fun hHeld => ?_)
       clear hK K; try simp only [Hp]
       refine wpAnyH_ready (rs := [3]) (by kernel_rfl) (by simp) (AllReadyH.cons (o := ?oi38) ?hi38 (fun K hK => ?rs38) AllReadyH.nil)
       case hi38 => (simp only [Hg]; rfl)
       case rs38 =>
        go_simp
        go_at_call 25; (with_reducible refine (HMb.out _).mono ?_); rintro e V38 ⟨rfl, hb⟩; have MV38 := Lib.hid (MV34.out.grow hb); clear hb
        refine hK.out _ _ ⟨MV38.out.s, MV38.out.t⟩ (fun hHeld => ?_)
        clear hK K; try simp only [Hp]
        obtain ⟨za, zb, hne, la, lb⟩ : Blk V38 g4 25 zeroC ∧ Blk V38 g5 25 zeroC ∧ g4 ≠ g5 ∧ w.heap.size + 2 ≤ g4 ∧ w.heap.size + 2 ≤ g5 := by first | exact MV38.out.two | exact MV38.out.swap.two
        obtain ⟨zc, zf⟩ := za.facts
        refine wpAnyH_ready (rs := [6]) (by kernel_rfl) (by simp) (AllReadyH.cons (o := ?oi39) ?hi39 (fun K hK => ?rs39) AllReadyH.nil)
        case hi39 => (simp only [Hg]; rfl)
        case rs39 =>
         clear hHeld
         go_simp
         refine hK.out _ _ ⟨MV38.out.s.far8 (by omega) (.int .u64 a.second) (.int .u64 a.minute) (.int .u64 a.hour) (.int .u64 a.day) (.int .u64 a.month) (.int .u64 a.week) (.bool a.anyDay) (.bool a.anyWeek), MV38.out.t.far8 (by omega) (.int .u64 a.second) (.int .u64 a.minute) (.int .u64 a.hour) (.int .u64 a.day) (.int .u64 a.month) (.int .u64 a.week) (.bool a.anyDay) (.bool a.anyWeek)⟩ (fun hHeld => ?_)
         clear hK K; try simp only [Hp]
         clear zc zf
         have m1 := za.set8 (.int .u64 a.second) (.int .u64 a.minute) (.int .u64 a.hour) (.int .u64 a.day) (.int .u64 a.month) (.int .u64 a.week) (.bool a.anyDay) (.bool a.anyWeek)
         have m2 := zb.far8 (Ne.symm hne) (.int .u64 a.second) (.int .u64 a.minute) (.int .u64 a.hour) (.int .u64 a.day) (.int .u64 a.month) (.int .u64 a.week) (.bool a.anyDay) (.bool a.anyWeek)
         have m3 := below_set8 MV38.out.bl (show w.heap.size ≤ g4 by omega) (.int .u64 a.second) (.int .u64 a.minute) (.int .u64 a.hour) (.int .u64 a.day) (.int .u64 a.month) (.int .u64 a.week) (.bool a.anyDay) (.bool a.anyWeek)
         have m4 := MV38.out.s.far8 (show w.heap.size ≠ g4 by omega) (.int .u64 a.second) (.int .u64 a.minute) (.int .u64 a.hour) (.int .u64 a.day) (.int .u64 a.month) (.int .u64 a.week) (.bool a.anyDay) (.bool a.anyWeek)
         have m5 := MV38.out.t.far8 (show w.heap.size + 1 ≠ g4 by omega) (.int .u64 a.second) (.int .u64 a.minute) (.int .u64 a.hour) (.int .u64 a.day) (.int .u64 a.month) (.int .u64 a.week) (.bool a.anyDay) (.bool a.anyWeek)
         unfold put8 at m1 m2 m3 m4 m5
         generalize World.setCell _ _ _ = VV at m1 m2 m3 m4 m5 ⊢
         obtain ⟨zc, zf⟩ := m2.facts
         refine wpAnyH_ready (rs := [7]) (by kernel_rfl) (by simp) (AllReadyH.cons (o := ?oi40) ?hi40 (fun K hK => ?rs40) AllReadyH.nil)
         case hi40 => (simp only [Hg]; rfl)
         case rs40 =>
          clear hHeld
          go_simp
          refine hK.out _ _ ⟨m4.far8 (by omega) (.int .u64 b.second) (.int .u64 b.minute) (.int .u64 b.hour) (.int .u64 b.day) (.int .u64 b.month) (.int .u64 b.week) (.bool b.anyDay) (.bool b.anyWeek), m5.far8 (by omega) (.int .u64 b.second) (.int .u64 b.minute) (.int .u64 b.hour) (.int .u64 b.day) (.int .u64 b.month) (.int .u64 b.week) (.bool b.anyDay) (.bool b.anyWeek)⟩ (fun hHeld => ?_)
          clear hK K; try simp only [Hp]
          refine wpAnyH_done (by kernel_rfl) ?_ _
          go_wp2_with fail
          go_meet
          exact ⟨g4, g5, rfl, rfl, hne, la, lb, m1.far8 hne (.int .u64 b.second) (.int .u64 b.minute) (.int .u64 b.hour) (.int .u64 b.day) (.int .u64 b.month) (.int .u64 b.week) (.bool b.anyDay) (.bool b.anyWeek), m2.set8 (.int .u64 b.second) (.int .u64 b.minute) (.int .u64 b.hour) (.int .u64 b.day) (.int .u64 b.month) (.int .u64 b.week) (.bool b.anyDay) (.bool b.anyWeek), below_set8 m3 (show w.heap.size ≤ g5 by omega) (.int .u64 b.second) (.int .u64 b.minute) (.int .u64 b.hour) (.int .u64 b.day) (.int .u64 b.month) (.int .u64 b.week) (.bool b.anyDay) (.bool b.anyWeek)⟩
     case hi32 => (simp only [Hg]; rfl)
     case rs32 =>
      go_simp
      have m := MV2.out.alloc; generalize V2.alloc (.cells zeroC 25) = V32 at m ⊢; generalize V2.heap.size = g5 at m ⊢; have MV32 := Lib.hid m; clear m
      refine hK.out _ _ ⟨MV32.out.s, MV32.out.t⟩ (fun hHeld => ?_)
      clear hK K; try simp only [Hp]
      refine wpAnyH_ready (rs := [1]) (by kernel_rfl) (by simp) (AllReadyH.cons (o := ?oi41) ?hi41 (fun K hK => ?rs41) AllReadyH.nil)
      case hi41 => (simp only [Hg]; rfl)
      case rs41 =>
       go_simp
       go_at_call 25; (with_reducible refine (HMa.out _).mono ?_); rintro e V41 ⟨rfl, hb⟩; have MV41 := Lib.hid (MV32.out.grow hb); clear hb
       refine hK.out _ _ ⟨MV41.out.s, MV41.out.t⟩ (fun hHeld => ?_)
       clear hK K; try simp only [Hp]
       refine wpAnyH_ready (rs := [3]) (by kernel_rfl) (by simp) (AllReadyH.cons (o := ?oi42) ?hi42 (fun K hK => ?rs42) AllReadyH.nil)
       case hi42 => (simp only [Hg]; rfl)
       case rs42 =>
        go_simp
        go_at_call 25; (with_reducible refine (HMb.out _).mono ?_); rintro e V42 ⟨rfl, hb⟩; have MV42 := Lib.hid (MV41.out.grow hb); clear hb
        refine hK.out _ _ ⟨MV42.out.s, MV42.out.t⟩ (fun hHeld => ?_)
        clear hK K; try simp only [Hp]
        obtain ⟨za, zb, hne, la, lb⟩ : Blk V42 g4 25 zeroC ∧ Blk V42 g5 25 zeroC ∧ g4 ≠ g5 ∧ w.heap.size + 2 ≤ g4 ∧ w.heap.size + 2 ≤ g5 := by first | exact MV42.out.two | exact MV42.out.swap.two
        obtain ⟨zc, zf⟩ := za.facts
        refine wpAnyH_ready (rs := [6]) (by kernel_rfl) (by simp) (AllReadyH.cons (o := ?oi43) ?hi43 (fun K hK => ?rs43) AllReadyH.nil)
        case hi43 => (simp only [Hg]; rfl)
        case rs43 =>
         clear hHeld
         go_simp
         refine hK.out _ _ ⟨MV42.out.s.far8 (by omega) (.int .u64 a.second) (.int .u64 a.minute) (.int .u64 a.hour) (.int .u64 a.day) (.int .u64 a.month) (.int .u64 a.week) (.bool a.anyDay) (.bool a.anyWeek), MV42.out.t.far8 (by omega) (.int .u64 a.second) (.int .u64 a.minute) (.int .u64 a.hour) (.int .u64 a.day) (.int .u64 a.month) (.int .u64 a.week) (.bool a.anyDay) (.bool a.anyWeek)⟩ (fun hHeld => ?_)
         clear hK K; try simp only [Hp]
         clear zc zf
         have m1 := za.set8 (.int .u64 a.second) (.int .u64 a.minute) (.int .u64 a.hour) (.int .u64 a.day) (.int .u64 a.month) (.int .u64 a.week) (.bool a.anyDay) (.bool a.anyWeek)
         have m2 := zb.far8 (Ne.symm hne) (.int .u64 a.second) (.int .u64 a.minute) (.int .u64 a.hour) (.int .u64 a.day) (.int .u64 a.month) (.int .u64 a.week) (.bool a.anyDay) (.bool a.anyWeek)
         have m3 := below_set8 MV42.out.bl (show w.heap.size ≤ g4 by omega) (.int .u64 a.second) (.int .u64 a.minute) (.int .u64 a.hour) (.int .u64 a.day) (.int .u64 a.month) (.int .u64 a.week) (.bool a.anyDay) (.bool a.anyWeek)
         have m4 := MV42.out.s.far8 (show w.heap.size ≠ g4 by omega) (.int .u64 a.second) (.int .u64 a.minute) (.int .u64 a.hour) (.int .u64 a.day) (.int .u64 a.month) (.int .u64 a.week) (.bool a.anyDay) (.bool a.anyWeek)
         have m5 := MV42.out.t.far8 (show w.heap.size + 1 ≠ g4 by omega) (.int .u64 a.second) (.int .u64 a.minute) (.int .u64 a.hour) (.int .u64 a.day) (.int .u64 a.month) (.int .u64 a.week) (.bool a.anyDay) (.bool a.anyWeek)
         unfold put8 at m1 m2 m3 m4 m5
         generalize World.setCell _ _ _ = VV at m1 m2 m3 m4 m5 ⊢
         obtain ⟨zc, zf⟩ := m2.facts
         refine wpAnyH_ready (rs := [7]) (by kernel_rfl) (by simp) (AllReadyH.cons (o := ?oi44) ?hi44 (fun K hK => ?rs44) AllReadyH.nil)
         case hi44 => (simp only [Hg]; rfl)
         case rs44 =>
          clear hHeld
          go_simp
          refine hK.out _ _ ⟨m4.far8 (by omega) (.int .u64 b.second) (.int .u64 b.minute) (.int .u64 b.hour) (.int .u64 b.day) (.int .u64 b.month) (.int .u64 b.week) (.bool b.anyDay) (.bool b.anyWeek), m5.far8 (by omega) (.int .u64 b.second) (.int .u64 b.minute) (.int .u64 b.hour) (.int .u64 b.day) (.int .u64 b.month) (.int .u64 b.week) (.bool b.anyDay) (.bool b.anyWeek)⟩ (fun hHeld => ?_)
          clear hK K; try simp only [Hp]
          refine wpAnyH_done (by kernel_rfl) ?_ _
          go_wp2_with fail
          go_meet
          exact ⟨g4, g5, rfl, rfl, hne, la, lb, m1.far8 hne (.int .u64 b.second) (.int .u64 b.minute) (.int .u64 b.hour) (.int .u64 b.day) (.int .u64 b.month) (.int .u64 b.week) (.bool b.anyDay) (.bool b.anyWeek), m2.set8 (.int .u64 b.second) (.int .u64 b.minute) (.int .u64 b.hour) (.int .u64 b.day) (.int .u64 b.month) (.int .u64 b.week) (.bool b.anyDay) (.bool b.anyWeek), below_set8 m3 (show w.heap.size ≤ g5 by omega) (.int .u64 b.second) (.int .u64 b.minute) (.int .u64 b.hour) (.int .u64 b.day) (.int .u64 b.month) (.int .u64 b.week) (.bool b.anyDay) (.bool b.anyWeek)⟩
    case hi3 => (simp only [Hg]; rfl)
    case rs3 =>
     go_simp
     have m := MV0.out.alloc; generalize V0.alloc (.cells zeroC 25) = V3 at m ⊢; generalize V0.heap.size = g5 at m ⊢; have MV3 := Lib.hid m; clear m
     refine hK.out _ _ ⟨MV3.out.s, MV3.out.t⟩ (fun hHeld => ?_)
     clear hK K; try simp only [Hp]
     refine wpAnyH_ready (rs := [1, 4]) (by kernel_rfl) (by simp) (AllReadyH.cons (o := ?oi45) ?hi45 (fun K hK => ?rs45) (AllReadyH.cons (o := ?oi46) ?hi46 (fun K hK => ?rs46) AllReadyH.nil))
     case hi45 => (simp only [Hg]; rfl)
     case rs45 =>
      go_simp
      go_at_call 25; (with_reducible refine (HMa.out _).mono ?_); rintro e V45 ⟨rfl, hb⟩; have MV45 := Lib.hid (MV3.out.grow hb); clear hb
      refine hK.out _ _ ⟨MV45.out.s, MV45.out.t⟩ (fun hHeld => ?_)
      clear hK K; try simp only [Hp]
      refine wpAnyH_ready (rs := [3, 4]) (by kernel_rfl) (by simp) (AllReadyH.cons (o := ?oi47) ?hi47 (fun K hK => ?rs47) (AllReadyH.cons (o := ?oi48) ?hi48 (fun K hK => ?rs48) AllReadyH.nil))
      case hi47 => (simp only [Hg]; rfl)
      case rs47 =>
       go_simp
       go_at_call 25; (with_reducible refine (HMb.out _).mono ?_); rintro e V47 ⟨rfl, hb⟩; have MV47 := Lib.hid (MV45.out.grow hb); clear hb
       refine hK.out _ _ ⟨MV47.out.s, MV47.out.t⟩ (fun hHeld => ?_)
       clear hK K; try simp only [Hp]
       refine wpAnyH_ready (rs := [4]) (by kernel_rfl) (by simp) (AllReadyH.cons (o := ?oi49) ?hi49 (fun K hK => ?rs49) AllReadyH.nil)
       case hi49 => (simp only [Hg]; rfl)
       case rs49 =>
        go_simp
        have m := MV47.out.alloc; generalize V47.alloc (.cells zeroC 25) = V49 at m ⊢; generalize V47.heap.size = g4 at m ⊢; have MV49 := Lib.hid m; clear m
        refine hK.out _ _ ⟨MV49.out.s, MV49.out.t⟩ (fun hHeld => ?_)
        clear hK K; try simp only [Hp]
        obtain ⟨za, zb, hne, la, lb⟩ : Blk V49 g4 25 zeroC ∧ Blk V49 g5 25 zeroC ∧ g4 ≠ g5 ∧ w.heap.size + 2 ≤ g4 ∧ w.heap.size + 2 ≤ g5 := by first | exact MV49.out.two | exact MV49.out.swap.two
        obtain ⟨zc, zf⟩ := za.facts
        refine wpAnyH_ready (rs := [6]) (by kernel_rfl) (by simp) (AllReadyH.cons (o := ?oi50) ?hi50 (fun K hK => ?rs50) AllReadyH.nil)
        case hi50 => (simp only [Hg]; rfl)
        case rs50 =>
         clear hHeld
         go_simp
         refine hK.out _ _ ⟨MV49.out.s.far8 (by omega) (.int .u64 a.second) (.int .u64 a.minute) (.int .u64 a.hour) (.int .u64 a.day) (.int .u64 a.month) (.int .u64 a.week) (.bool a.anyDay) (.bool a.anyWeek), MV49.out.t.far8 (by omega) (.int .u64 a.second) (.int .u64 a.minute) (.int .u64 a.hour) (.int .u64 a.day) (.int .u64 a.month) (.int .u64 a.week) (.bool a.anyDay) (.bool a.anyWeek)⟩ (fun hHeld => ?_)
         clear hK K; try simp only [Hp]
         clear zc zf
         have m1 := za.set8 (.int .u64 a.second) (.int .u64 a.minute) (.int .u64 a.hour) (.int .u64 a.day) (.int .u64 a.month) (.int .u64 a.week) (.bool a.anyDay) (.bool a.anyWeek)
         have m2 := zb.far8 (Ne.symm hne) (.int .u64 a.second) (.int .u64 a.minute) (.int .u64 a.hour) (.int .u64 a.day) (.int .u64 a.month) (.int .u64 a.week) (.bool a.anyDay) (.bool a.anyWeek)
         have m3 := below_set8 MV49.out.bl (show w.heap.size ≤ g4 by omega) (.int .u64 a.second) (.int .u64 a.minute) (.int .u64 a.hour) (.int .u64 a.day) (.int .u64 a.month) (.int .u64 a.week) (.bool a.anyDay) (.bool a.anyWeek)
         have m4 := MV49.out.s.far8 (show w.heap.size ≠ g4 by omega) (.int .u64 a.second) (.int .u64 a.minute) (.int .u64 a.hour) (.int .u64 a.day) (.int .u64 a.month) (.int .u64 a.week) (.bool a.anyDay) (.bool a.anyWeek)
         have m5 := MV49.out.t.far8 (show w.heap.size + 1 ≠ g4 by omega) (.int .u64 a.second) (.int .u64 a.minute) (.int .u64 a.hour) (.int .u64 a.day) (.int .u64 a.month) (.int .u64 a.week) (.bool a.anyDay) (.bool a.anyWeek)
         unfold put8 at m1 m2 m3 m4 m5
         generalize World.setCell _ _ _ = VV at m1 m2 m3 m4 m5 ⊢
         obtain ⟨zc, zf⟩ := m2.facts
         refine wpAnyH_ready (rs := [7]) (by kernel_rfl) (by simp) (AllReadyH.cons (o := ?oi51) ?hi51 (fun K hK => ?rs51) AllReadyH.nil)
         case hi51 => (simp only [Hg]; rfl)
         case rs51 =>
          clear hHeld
          go_simp
          refine hK.out _ _ ⟨m4.far8 (by omega) (.int .u64 b.second) (.int .u64 b.minute) (.int .u64 b.hour) (.int .u64 b.day) (.int .u64 b.month) (.int .u64 b.week) (.bool b.anyDay) (.bool b.anyWeek), m5.far8 (by omega) (.int .u64 b.second) (.int .u64 b.minute) (.int .u64 b.hour) (.int .u64 b.day) (.int .u64 b.month) (.int .u64 b.week) (.bool b.anyDay) (.bool b.anyWeek)⟩ (fun hHeld => ?_)
          clear hK K; try simp only [Hp]
          refine wpAnyH_done (by kernel_rfl) ?_ _
          go_wp2_with fail
          go_meet
          exact ⟨g4, g5, rfl, rfl, hne, la, lb, m1.far8 hne (.int .u64 b.second) (.int .u64 b.minute) (.int .u64 b.hour) (.int .u64 b.day) (.int .u64 b.month) (.int .u64 b.week) (.bool b.anyDay) (.bool b.anyWeek), m2.set8 (.int .u64 b.second) (.int .u64 b.minute) (.int .u64 b.hour) (.int .u64 b.day) (.int .u64 b.month) (.int .u64 b.week) (.bool b.anyDay) (.bool b.anyWeek), below_set8 m3 (show w.heap.size ≤ g5 by omega) (.int .u64 b.second) (.int .u64 b.minute) (.int .u64 b.hour) (.int .u64 b.day) (.int .u64 b.month) (.int .u64 b.week) (.bool b.anyDay) (.bool b.anyWeek)⟩
      case hi48 => (simp only [Hg]; rfl)
      case rs48 =>
       go_simp
       have m := MV45.out.alloc; generalize V45.alloc (.cells zeroC 25) = V48 at m ⊢; generalize V45.heap.size = g4 at m ⊢; have MV48 := Lib.hid m; clear m
       refine hK.out _ _ ⟨MV48.out.s, MV48.out.t⟩ (fun hHeld => ?_)
       clear hK K; try simp only [Hp]
       refine wpAnyH_ready (rs := [3]) (by kernel_rfl) (by simp) (AllReadyH.cons (o := ?oi52) ?hi52 (fun K hK => ?rs52) AllReadyH.nil)
       case hi52 => (simp only [Hg]; rfl)
       case rs52 =>
        go_simp
        go_at_call 25; (with_reducible refine (HMb.out _).mono ?_); rintro e V52 ⟨rfl, hb⟩; have MV52 := Lib.hid (MV48.out.grow hb); clear hb
        refine hK.out _ _ ⟨MV52.out.s, MV52.out.t⟩ (fun hHeld => ?_)
        clear hK K; try simp only [Hp]
        obtain ⟨za, zb, hne, la, lb⟩ : Blk V52 g4 25 zeroC ∧ Blk V52 g5 25 zeroC ∧ g4 ≠ g5 ∧ w.heap.size + 2 ≤ g4 ∧ w.heap.size + 2 ≤ g5 := by first | exact MV52.out.two | exact MV52.out.swap.two
        obtain ⟨zc, zf⟩ := za.facts
        refine wpAnyH_ready (rs := [6]) (by kernel_rfl) (by simp) (AllReadyH.cons (o := ?oi53) ?hi53 (fun K hK => ?rs53) AllReadyH.nil)
        case hi53 => (simp only [Hg]; rfl)
        case rs53 =>
         clear hHeld
         go_simp
         refine hK.out _ _ ⟨MV52.out.s.far8 (by omega) (.int .u64 a.second) (.int .u64 a.minute) (.int .u64 a.hour) (.int .u64 a.day) (.int .u64 a.month) (.int .u64 a.week) (.bool a.anyDay) (.bool a.anyWeek), MV52.out.t.far8 (by omega) (.int .u64 a.second) (.int .u64 a.minute) (.int .u64 a.hour) (.int .u64 a.day) (.int .u64 a.month) (.int .u64 a.week) (.bool a.anyDay) (.bool a.anyWeek)⟩ (fun hHeld => ?_)
         clear hK K; try simp only [Hp]
         clear zc zf
         have m1 := za.set8 (.int .u64 a.second) (.int .u64 a.minute) (.int .u64 a.hour) (.int .u64 a.day) (.int .u64 a.month) (.int .u64 a.week) (.bool a.anyDay) (.bool a.anyWeek)
         have m2 := zb.far8 (Ne.symm hne) (.int .u64 a.second) (.int .u64 a.minute) (.int .u64 a.hour) (.int .u64 a.day) (.int .u64 a.month) (.int .u64 a.week) (.bool a.anyDay) (.bool a.anyWeek)
         have m3 := below_set8 MV52.out.bl (show w.heap.size ≤ g4 by omega) (.int .u64 a.second) (.int .u64 a.minute) (.int .u64 a.hour) (.int .u64 a.day) (.int .u64 a.month) (.int .u64 a.week) (.bool a.anyDay) (.bool a.anyWeek)
         have m4 := MV52.out.s.far8 (show w.heap.size ≠ g4 by omega) (.int .u64 a.second) (.int .u64 a.minute) (.int .u64 a.hour) (.int .u64 a.day) (.int .u64 a.month) (.int .u64 a.week) (.bool a.anyDay) (.bool a.anyWeek)
         have m5 := MV52.out.t.far8 (show w.heap.size + 1 ≠ g4 by omega) (.int .u64 a.second) (.int .u64 a.minute) (.int .u64 a.hour) (.int .u64 a.day) (.int .u64 a.month) (.int .u64 a.week) (.bool a.anyDay) (.bool a.anyWeek)
         unfold put8 at m1 m2 m3 m4 m5
         generalize World.setCell _ _ _ = VV at m1 m2 m3 m4 m5 ⊢
         obtain ⟨zc, zf⟩ := m2.facts
         refine wpAnyH_ready (rs := [7]) (by kernel_rfl) (by simp) (AllReadyH.cons (o := ?oi54) ?hi54 (fun K hK => ?rs54) AllReadyH.nil)
         case hi54 => (simp only [Hg]; rfl)
         case rs54 =>
          clear hHeld
          go_simp
          refine hK.out _ _ ⟨m4.far8 (by omega) (.int .u64 b.second) (.int .u64 b.minute) (.int .u64 b.hour) (.int .u64 b.day) (.int .u64 b.month) (.int .u64 b.week) (.bool b.anyDay) (.bool b.anyWeek), m5.far8 (by omega) (.int .u64 b.second) (.int .u64 b.minute) (.int .u64 b.hour) (.int .u64 b.day) (.int .u64 b.month) (.int .u64 b.week) (.bool b.anyDay) (.bool b.anyWeek)⟩ (fun hHeld => ?_)
          clear hK K; try simp only [Hp]
          refine wpAnyH_done (by kernel_rfl) ?_ _
          go_wp2_with fail
          go_meet
          exact ⟨g4, g5, rfl, rfl, hne, la, lb, m1.far8 hne (.int .u64 b.second) (.int .u64 b.minute) (.int .u64 b.hour) (.int .u64 b.day) (.int .u64 b.month) (.int .u64 b.week) (.bool b.anyDay) (.bool b.anyWeek), m2.set8 (.int .u64 b.second) (.int .u64 b.minute) (.int .u64 b.hour) (.int .u64 b.day) (.int .u64 b.month) (.int .u64 b.week) (.bool b.anyDay) (.bool b.anyWeek), below_set8 m3 (show w.heap.size ≤ g5 by omega) (.int .u64 b.second) (.int .u64 b.minute) (.int .u64 b.hour) (.int .u64 b.day) (.int .u64 b.month) (.int .u64 b.week) (.bool b.anyDay) (.bool b.anyWeek)⟩
     case hi46 => (simp only [Hg]; rfl)
     case rs46 =>
      go_simp
      have m := MV3.out.alloc; generalize V3.alloc (.cells zeroC 25) = V46 at m ⊢; generalize V3.heap.size = g4 at m ⊢; have MV46 := Lib.hid m; clear m
      refine hK.out _ _ ⟨MV46.out.s, MV46.out.t⟩ (fun hHeld => ?_)
      clear hK K; try simp only [Hp]
      refine wpAnyH_ready (rs := [1]) (by kernel_rfl) (by simp) (AllReadyH.cons (o := ?oi55) ?hi55 (fun K hK => ?rs55) AllReadyH.nil)
      case hi55 => (simp only [Hg]; rfl)
      case rs55 =>
       go_simp
       go_at_call 25; (with_reducible refine (HMa.out _).mono ?_); rintro e V55 ⟨rfl, hb⟩; have MV55 := Lib.hid (MV46.out.grow hb); clear hb
       refine hK.out _ _ ⟨MV55.out.s, MV55.out.t⟩ (fun hHeld => ?_)
       clear hK K; try simp only [Hp]
       refine wpAnyH_ready (rs := [3]) (by kernel_rfl) (by simp) (AllReadyH.cons (o := ?oi56) ?hi56 (fun K hK => ?rs56) AllReadyH.nil)
       case hi56 => (simp only [Hg]; rfl)
       case rs56 =>
        go_simp
        go_at_call 25; (with_reducible refine (HMb.out _).mono ?_); rintro e V56 ⟨rfl, hb⟩; have MV56 := Lib.hid (MV55.out.grow hb); clear hb
        refine hK.out _ _ ⟨MV56.out.s, MV56.out.t⟩ (fun hHeld => ?_)
        clear hK K; try simp only [Hp]
        obtain ⟨za, zb, hne, la, lb⟩ : Blk V56 g4 25 zeroC ∧ Blk V56 g5 25 zeroC ∧ g4 ≠ g5 ∧ w.heap.size + 2 ≤ g4 ∧ w.heap.size + 2 ≤ g5 := by first | exact MV56.out.two | exact MV56.out.swap.two
        obtain ⟨zc, zf⟩ := za.facts
        refine wpAnyH_ready (rs := [6]) (by kernel_rfl) (by simp) (AllReadyH.cons (o := ?oi57) ?hi57 (fun K hK => ?rs57) AllReadyH.nil)
        case hi57 => (simp only [Hg]; rfl)
        case rs57 =>
         clear hHeld
         go_simp
         refine hK.out _ _ ⟨MV56.out.s.far8 (by omega) (.int .u64 a.second) (.int .u64 a.minute) (.int .u64 a.hour) (.int .u64 a.day) (.int .u64 a.month) (.int .u64 a.week) (.bool a.anyDay) (.bool a.anyWeek), MV56.out.t.far8 (by omega) (.int .u64 a.second) (.int .u64 a.minute) (.int .u64 a.hour) (.int .u64 a.day) (.int .u64 a.month) (.int .u64 a.week) (.bool a.anyDay) (.bool a.anyWeek)⟩ (fun hHeld => ?_)
         clear hK K; try simp only [Hp]
         clear zc zf
         have m1 := za.set8 (.int .u64 a.second) (.int .u64 a.minute) (.int .u64 a.hour) (.int .u64 a.day) (.int .u64 a.month) (.int .u64 a.week) (.bool a.anyDay) (.bool a.anyWeek)
         have m2 := zb.far8 (Ne.symm hne) (.int .u64 a.second) (.int .u64 a.minute) (.int .u64 a.hour) (.int .u64 a.day) (.int .u64 a.month) (.int .u64 a.week) (.bool a.anyDay) (.bool a.anyWeek)
         have m3 := below_set8 MV56.out.bl (show w.heap.size ≤ g4 by omega) (.int .u64 a.second) (.int .u64 a.minute) (.int .u64 a.hour) (.int .u64 a.day) (.int .u64 a.month) (.int .u64 a.week) (.bool a.anyDay) (.bool a.anyWeek)
         have m4 := MV56.out.s.far8 (show w.heap.size ≠ g4 by omega) (.int .u64 a.second) (.int .u64 a.minute) (.int .u64 a.hour) (.int .u64 a.day) (.int .u64 a.month) (.int .u64 a.week) (.bool a.anyDay) (.bool a.anyWeek)
         have m5 := MV56.out.t.far8 (show w.heap.size + 1 ≠ g4 by omega) (.int .u64 a.second) (.int .u64 a.minute) (.int .u64 a.hour) (.int .u64 a.day) (.int .u64 a.month) (.int .u64 a.week) (.bool a.anyDay) (.bool a.anyWeek)
         unfold put8 at m1 m2 m3 m4 m5
         generalize World.setCell _ _ _ = VV at m1 m2 m3 m4 m5 ⊢
         obtain ⟨zc, zf⟩ := m2.facts
         refine wpAnyH_ready (rs := [7]) (by kernel_rfl) (by simp) (AllReadyH.cons (o := ?oi58) ?hi58 (fun K hK => ?rs58) AllReadyH.nil)
         case hi58 => (simp only [Hg]; rfl)
         case rs58 =>
          clear hHeld
          go_simp
          refine hK.out _ _ ⟨m4.far8 (by omega) (.int .u64 b.second) (.int .u64 b.minute) (.int .u64 b.hour) (.int .u64 b.day) (.int .u64 b.month) (.int .u64 b.week) (.bool b.anyDay) (.bool b.anyWeek), m5.far8 (by omega) (.int .u64 b.second) (.int .u64 b.minute) (.int .u64 b.hour) (.int .u64 b.day) (.int .u64 b.month) (.int .u64 b.week) (.bool b.anyDay) (.bool b.anyWeek)⟩ (fun hHeld => ?_)
          clear hK K; try simp only [Hp]
          refine wpAnyH_done (by kernel_rfl) ?_ _
          go_wp2_with fail
          go_meet
          exact ⟨g4, g5, rfl, rfl, hne, la, lb, m1.far8 hne (.int .u64 b.second) (.int .u64 b.minute) (.int .u64 b.hour) (.int .u64 b.day) (.int .u64 b.month) (.int .u64 b.week) (.bool b.anyDay) (.bool b.anyWeek), m2.set8 (.int .u64 b.second) (.int .u64 b.minute) (.int .u64 b.hour) (.int .u64 b.day) (.int .u64 b.month) (.int .u64 b.week) (.bool b.anyDay) (.bool b.anyWeek), below_set8 m3 (show w.heap.size ≤ g5 by omega) (.int .u64 b.second) (.int .u64 b.minute) (.int .u64 b.hour) (.int .u64 b.day) (.int .u64 b.month) (.int .u64 b.week) (.bool b.anyDay) (.bool b.anyWeek)⟩
  case rest =>
    obtain ⟨gA, gB, rfl, rfl, hne, la, lb, hKA, hKB, hbl⟩ := hcut
    have KAh := Lib.hid hKA
    have KBh := Lib.hid hKB
    have BL := Lib.hid hbl
    have XC := Lib.hid (HX.out.grow hbl)
    obtain ⟨ac, af⟩ := hKA.facts
    obtain ⟨bc, bf⟩ := hKB.facts
    have HBa : Hid (∀ W, Tabs W → Calls Tryz.prog 27 #[exV a.second a.minute a.hour a.day a.month a.week a.anyDay a.anyWeek, exV b.second b.minute b.hour b.day b.month b.week b.anyDay b.anyWeek] W fun e w' => e = .returned (retB (Xs.bothV KX a b)) ∧ Below W.heap.size W w') := Lib.hid fun W h => expr_Both a b Hca.out Hcb.out W h
    have HBb : Hid (∀ W, Tabs W → Calls Tryz.prog 27 #[exV b.second b.minute b.hour b.day b.month b.week b.anyDay b.anyWeek, exV a.second a.minute a.hour a.day a.month a.week a.anyDay a.anyWeek] W fun e w' => e = .returned (retB (Xs.bothV KX b a)) ∧ Below W.heap.size W w') := Lib.hid fun W h => expr_Both b a Hcb.out Hca.out W h
    clear hKA hKB hbl HMa HMb MW
    cases hq : Xs.daysB KX a b with
    | none =>
      obtain ⟨hq2, hq3⟩ := Xs.days_none hq
      have HB1 : Hid (∀ W, Tabs W → Calls Tryz.prog 27 #[exV a.second a.minute a.hour a.day a.month a.week a.anyDay a.anyWeek, exV b.second b.minute b.hour b.day b.month b.week b.anyDay b.anyWeek] W fun e w' => e = .returned (.tuple #[exV 0 0 0 0 0 0 false false, .bool false, .int .i64 2]) ∧ Below W.heap.size W w') := Lib.hid (by
        have h := HBa.out
        rw [show Xs.bothV KX a b = (Xs.Ex.zero, false, 2) by unfold Xs.bothV; rw [hq]] at h
        exact h)
      have HB2 : Hid (∀ W, Tabs W → Calls Tryz.prog 27 #[exV b.second b.minute b.hour b.day b.month b.week b.anyDay b.anyWeek, exV a.second a.minute a.hour a.day a.month a.week a.anyDay a.anyWeek] W fun e w' => e = .returned (.tuple #[exV 0 0 0 0 0 0 false false, .bool false, .int .i64 2]) ∧ Below W.heap.size W w') := Lib.hid (by
        have h := HBb.out
        rw [show Xs.bothV KX b a = (Xs.Ex.zero, false, 2) by unfold Xs.bothV; rw [hq2]] at h
        exact h)
      have Hq3 := Lib.hid hq3
      clear HBa HBb hq hq2 hq3 Hs hn hc hA
      go_upto_region 7 with (first
        | (go_at_call 27; (with_reducible refine (HB1.out _ XC.out.tabs).mono ?_); clear HB1 ac af bc bf; rintro e w1 ⟨rfl, hb1⟩; have KA2 := Lib.hid ((KAh.out.below hb1 KAh.out.lt).alloc (.cells zeroC 25)); have KB2 := Lib.hid ((KBh.out.below hb1 KBh.out.lt).alloc (.cells zeroC 25)); have KX2 := Lib.hid (Blk.new w1 25 zeroC); have B2 := Lib.hid ((BL.out.trans (hb1.mono BL.out.size)).alloc (Nat.le_trans BL.out.size hb1.size) (.cells zeroC 25)); clear hb1; have X2 := Lib.hid (HX.out.grow B2.out); obtain ⟨ac, af⟩ := KA2.out.facts; obtain ⟨bc, bf⟩ := KB2.out.facts)
        | (go_at_call 27; (with_reducible refine (HB2.out _ X2.out.tabs).mono ?_); clear HB2 ac af bc bf; rintro e w2 ⟨rfl, hb2⟩; have KA3 := Lib.hid ((KA2.out.below hb2 KA2.out.lt).alloc (.cells zeroC 25)); have KB3 := Lib.hid ((KB2.out.below hb2 KB2.out.lt).alloc (.cells zeroC 25)); have KX3 := Lib.hid ((KX2.out.below hb2 KX2.out.lt).alloc (.cells zeroC 25)); have KY3 := Lib.hid (Blk.new w2 25 zeroC); have B3 := Lib.hid ((B2.out.trans (hb2.mono B2.out.size)).alloc (Nat.le_trans B2.out.size hb2.size) (.cells zeroC 25)); clear hb2; have X3 := Lib.hid (HX.out.grow B3.out); obtain ⟨ac, af⟩ := KA3.out.facts; obtain ⟨bc, bf⟩ := KB3.out.facts; obtain ⟨xc, xf⟩ := KX3.out.facts))
      obtain ⟨ad, had⟩ : ∃ v, a.anyDay = v := ⟨_, rfl⟩
      obtain ⟨aw, haw⟩ : ∃ v, a.anyWeek = v := ⟨_, rfl⟩
      obtain ⟨bd, hbd⟩ : ∃ v, b.anyDay = v := ⟨_, rfl⟩
      obtain ⟨bw, hbw⟩ : ∃ v, b.anyWeek = v := ⟨_, rfl⟩
      have c1 := (KA3.out.cell 6).trans (show _ = some (.bool ad) by rw [← had]; rfl)
      have c2 := (KA3.out.cell 7).trans (show _ = some (.bool aw) by rw [← haw]; rfl)
      have c3 := (KB3.out.cell 6).trans (show _ = some (.bool bd) by rw [← hbd]; rfl)
      have c4 := (KB3.out.cell 7).trans (show _ = some (.bool bw) by rw [← hbw]; rfl)
      have h := Hq3.out
      rw [had, haw, hbd, hbw] at h
      clear ac af bc bf xc xf had haw hbd hbw Hq3
      cases ad <;> cases aw <;> cases bd <;> cases bw <;> first
        | (exfalso; revert h; decide)
        | (clear h
           go_wp2_with (go_at_call 12; (with_reducible refine (HW.out _ X3.out).mono ?_); rintro e w9 ⟨rfl, hb9⟩)
           go_ret
           exact ⟨rfl, B3.out.trans (hb9.mono B3.out.size)⟩)
    | some q =>
      have hz : (Xs.bothV KX a b).2.2 = 0 := by
        unfold Xs.bothV
        rw [hq]
        simp only
        split <;> rfl
      have hcm := Xs.both_comm Hca.out Hcb.out
      obtain ⟨x, hx⟩ : ∃ x, (Xs.bothV KX a b).1 = x := ⟨_, rfl⟩
      obtain ⟨y, hy⟩ : ∃ y, (Xs.bothV KX b a).1 = y := ⟨_, rfl⟩
      obtain ⟨iz, hi⟩ : ∃ iz, (Xs.bothV KX a b).2.1 = iz := ⟨_, rfl⟩
      have hr1 : Xs.bothV KX a b = (x, iz, 0) := Prod.ext hx (Prod.ext hi hz)
      have hr2 : Xs.bothV KX b a = (y, iz, 0) := Prod.ext hy (hcm.symm.trans (Prod.ext hi hz))
      have Hm := Lib.hid fun (s m h n : Nat) (d k : Nat) (h1 : 1 ≤ d) (h2 : d ≤ 31) (h3 : k ≤ 6) => Xs.both_match (d := d) (w := k) full_days Hca.out Hcb.out s m h n h1 h2 h3 hz
      have Hm2 := Lib.hid fun (s m h n : Nat) (d k : Nat) (h1 : 1 ≤ d) (h2 : d ≤ 31) (h3 : k ≤ 6) => Xs.both_match (d := d) (w := k) full_days Hcb.out Hca.out s m h n h1 h2 h3 (by rw [hr2])
      rw [hr1] at Hm HBa
      rw [hr2] at Hm2 HBb
      cases iz with
      | false =>
        have e1 : x = Xs.Ex.zero := hx ▸ both_none (by rw [hr1])
        have e2 : y = Xs.Ex.zero := hy ▸ both_none (by rw [hr2])
        subst e1 e2
        have HB1 : Hid (∀ W, Tabs W → Calls Tryz.prog 27 #[exV a.second a.minute a.hour a.day a.month a.week a.anyDay a.anyWeek, exV b.second b.minute b.hour b.day b.month b.week b.anyDay b.anyWeek] W fun e w' => e = .returned (.tuple #[exV 0 0 0 0 0 0 false false, .bool false, .int .i64 0]) ∧ Below W.heap.size W w') := HBa
        have HB2 : Hid (∀ W, Tabs W → Calls Tryz.prog 27 #[exV b.second b.minute b.hour b.day b.month b.week b.anyDay b.anyWeek, exV a.second a.minute a.hour a.day a.month a.week a.anyDay a.anyWeek] W fun e w' => e = .returned (.tuple #[exV 0 0 0 0 0 0 false false, .bool false, .int .i64 0]) ∧ Below W.heap.size W w') := HBb
        clear HBa HBb hq hz hcm hx hy hi hr1 hr2 Hm2
        go_upto_region 8 with (first
          | (go_at_call 27; (with_reducible refine (HB1.out _ XC.out.tabs).mono ?_); clear HB1 ac af bc bf; rintro e w1 ⟨rfl, hb1⟩; have KA2 := Lib.hid ((KAh.out.below hb1 KAh.out.lt).alloc (.cells zeroC 25)); have KB2 := Lib.hid ((KBh.out.below hb1 KBh.out.lt).alloc (.cells zeroC 25)); have KX2 := Lib.hid (Blk.new w1 25 zeroC); have B2 := Lib.hid ((BL.out.trans (hb1.mono BL.out.size)).alloc (Nat.le_trans BL.out.size hb1.size) (.cells zeroC 25)); clear hb1; have X2 := Lib.hid (HX.out.grow B2.out); obtain ⟨ac, af⟩ := KA2.out.facts; obtain ⟨bc, bf⟩ := KB2.out.facts)
          | (go_at_call 27; (with_reducible refine (HB2.out _ X2.out.tabs).mono ?_); clear HB2 ac af bc bf; rintro e w2 ⟨rfl, hb2⟩; have KA3 := Lib.hid ((KA2.out.below hb2 KA2.out.lt).alloc (.cells zeroC 25)); have KB3 := Lib.hid ((KB2.out.below hb2 KB2.out.lt).alloc (.cells zeroC 25)); have KX3 := Lib.hid ((KX2.out.below hb2 KX2.out.lt).alloc (.cells zeroC 25)); have KY3 := Lib.hid (Blk.new w2 25 zeroC); have B3 := Lib.hid ((B2.out.trans (hb2.mono B2.out.size)).alloc (Nat.le_trans B2.out.size hb2.size) (.cells zeroC 25)); clear hb2; have X3 := Lib.hid (HX.out.grow B3.out); obtain ⟨ac, af⟩ := KA3.out.facts; obtain ⟨bc, bf⟩ := KB3.out.facts; obtain ⟨xc, xf⟩ := KX3.out.facts))
        clear ac af bc bf xc xf
        have L0 : Hid (MeetL w (exC a.second a.minute a.hour a.day a.month a.week a.anyDay a.anyWeek) (exC b.second b.minute b.hour b.day b.month b.week b.anyDay b.anyWeek) zeroC zeroC gA gB w1.heap.size w2.heap.size _) := Lib.hid ⟨KA3.out, KB3.out, KX3.out, KY3.out, B3.out⟩
        rcases Hs.out with h0 | ⟨bk, off, rfl, hbk, hcell⟩
        · subst h0
          clear Hs Hm
          cases A with
          | none =>
            obtain rfl := hA rfl
            go_wp2_with fail
            go_loopw [110] (fun i wr => i = .int .i64 0 ∧ MeetL w (exC a.second a.minute a.hour a.day a.month a.week a.anyDay a.anyWeek) (exC b.second b.minute b.hour b.day b.month b.week b.anyDay b.anyWeek) zeroC zeroC gA gB w1.heap.size w2.heap.size wr) (fun _ _ => 0)
            case atStart => exact ⟨rfl, L0.out⟩
            case round =>
              obtain ⟨rfl, hrest⟩ := hrel
              have HR := Lib.hid hrest
              clear hrest
              go_wp2_with (go_at_call 12; (with_reducible refine (HW.out _ (HX.out.grow HR.out.bl)).mono ?_); rintro e w9 ⟨rfl, hb9⟩)
              go_ret
              exact ⟨rfl, HR.out.bl.trans (hb9.mono HR.out.bl.size)⟩
          | some A =>
            go_wp2_with fail
            go_loopw [110] (fun i wr => i = .int .i64 0 ∧ MeetL w (exC a.second a.minute a.hour a.day a.month a.week a.anyDay a.anyWeek) (exC b.second b.minute b.hour b.day b.month b.week b.anyDay b.anyWeek) zeroC zeroC gA gB w1.heap.size w2.heap.size wr) (fun _ _ => 0)
            case atStart => exact ⟨rfl, L0.out⟩
            case round =>
              obtain ⟨rfl, hrest⟩ := hrel
              have HR := Lib.hid hrest
              clear hrest
              go_wp2_with (go_at_call 12; (with_reducible refine (HW.out _ (HX.out.grow HR.out.bl)).mono ?_); rintro e w9 ⟨rfl, hb9⟩)
              go_ret
              exact ⟨rfl, HR.out.bl.trans (hb9.mono HR.out.bl.size)⟩
        · obtain ⟨N, hN⟩ : ∃ N, N = min n 40 := ⟨_, rfl⟩
          have hmin : min (n : Int) 40 = (N : Int) := by omega
          have hN1 : N ≤ n := by omega
          have hN2 : N ≤ c := by omega
          have hN3 : N ≤ 40 := by omega
          clear hN Hs
          go_wp2_with fail
          clear hmin
          go_loopw [110] (fun i wr => ∃ j : Nat, j ≤ N ∧ i = .int .i64 j ∧ MeetL w (exC a.second a.minute a.hour a.day a.month a.week a.anyDay a.anyWeek) (exC b.second b.minute b.hour b.day b.month b.week b.anyDay b.anyWeek) zeroC zeroC gA gB w1.heap.size w2.heap.size wr) (fun i _ => 41 - (intOf i).toNat)
          case atStart => exact ⟨0, Nat.zero_le _, rfl, L0.out⟩
          case round =>
            obtain ⟨j, hjN, rfl, hrest⟩ := hrel
            have HR := Lib.hid hrest
            clear hrest
            by_cases hj : j < N
            · obtain ⟨t, ht⟩ := hcell j (by omega)
              have hbl : Below w.heap.size w wr := HR.out.bl
              have d0 : wr.cell? ⟨bk, off + j * 6, none⟩ = some (.int .u8 (t 0)) := (hbl.cell (p := ⟨bk, off + (j * 6 + 0), none⟩) hbk).trans (ht 0 (by decide)).2
              have d1 : wr.cell? ⟨bk, off + j * 6 + 1, none⟩ = some (.int .u8 (t 1)) := (hbl.cell (p := ⟨bk, off + (j * 6 + 1), none⟩) hbk).trans (ht 1 (by decide)).2
              have d2 : wr.cell? ⟨bk, off + j * 6 + 2, none⟩ = some (.int .u8 (t 2)) := (hbl.cell (p := ⟨bk, off + (j * 6 + 2), none⟩) hbk).trans (ht 2 (by decide)).2
              have d3 : wr.cell? ⟨bk, off + j * 6 + 3, none⟩ = some (.int .u8 (t 3)) := (hbl.cell (p := ⟨bk, off + (j * 6 + 3), none⟩) hbk).trans (ht 3 (by decide)).2
              have d4 : wr.cell? ⟨bk, off + j * 6 + 4, none⟩ = some (.int .u8 (t 4)) := (hbl.cell (p := ⟨bk, off + (j * 6 + 4), none⟩) hbk).trans (ht 4 (by decide)).2
              have d5 : wr.cell? ⟨bk, off + j * 6 + 5, none⟩ = some (.int .u8 (t 5)) := (hbl.cell (p := ⟨bk, off + (j * 6 + 5), none⟩) hbk).trans (ht 5 (by decide)).2
              have b0 := (ht 0 (by decide)).1
              have b1 := (ht 1 (by decide)).1
              have b2 := (ht 2 (by decide)).1
              have b3 := (ht 3 (by decide)).1
              have b4 := (ht 4 (by decide)).1
              have b5 := (ht 5 (by decide)).1
              have Hcell := Lib.hid hcell
              clear ht hbl hcell
              generalize t 0 = t0 at *
              generalize t 1 = t1 at *
              generalize t 2 = t2 at *
              generalize t 3 = t3 at *
              generalize t 4 = t4 at *
              generalize t 5 = t5 at *
              obtain ⟨p0, hp0⟩ : ∃ p, p = t0 % 60 := ⟨_, rfl⟩
              have q0 : (t0 : Int) % 60 = (p0 : Int) := by omega
              have r0 : p0 ≤ 59 := by omega
              obtain ⟨p1, hp1⟩ : ∃ p, p = t1 % 60 := ⟨_, rfl⟩
              have q1 : (t1 : Int) % 60 = (p1 : Int) := by omega
              have r1 : p1 ≤ 59 := by omega
              obtain ⟨p2, hp2⟩ : ∃ p, p = t2 % 24 := ⟨_, rfl⟩
              have q2 : (t2 : Int) % 24 = (p2 : Int) := by omega
              have r2 : p2 ≤ 23 := by omega
              obtain ⟨p3, hp3⟩ : ∃ p, p = 1 + t3 % 31 := ⟨_, rfl⟩
              have q3 : 1 + (t3 : Int) % 31 = (p3 : Int) := by omega
              have r3 : 1 ≤ p3 ∧ p3 ≤ 31 := by omega
              obtain ⟨p4, hp4⟩ : ∃ p, p = 1 + t4 % 12 := ⟨_, rfl⟩
              have q4 : 1 + (t4 : Int) % 12 = (p4 : Int) := by omega
              have r4 : 1 ≤ p4 ∧ p4 ≤ 12 := by omega
              obtain ⟨p5, hp5⟩ : ∃ p, p = t5 % 7 := ⟨_, rfl⟩
              have q5 : (t5 : Int) % 7 = (p5 : Int) := by omega
              have r5 : p5 ≤ 6 := by omega
              clear hp0 hp1 hp2 hp3 hp4 hp5
              go_upto_region 12 with fail
              try rw [q0, q1, q2, q3, q4, q5]
              clear q0 q1 q2 q3 q4 q5 d0 d1 d2 d3 d4 d5
              have L1 := Lib.hid ((HR.out.alloc (.cells #[.int .u8 t0, .int .u8 t1, .int .u8 t2, .int .u8 t3, .int .u8 t4, .int .u8 t5] 49)).alloc (.cells #[.int .i64 p0, .int .i64 p1, .int .i64 p2, .int .i64 p3, .int .i64 p4, .int .i64 p5] 50))
              have P1 : Hid (Blk ((wr.alloc (.cells #[.int .u8 t0, .int .u8 t1, .int .u8 t2, .int .u8 t3, .int .u8 t4, .int .u8 t5] 49)).alloc (.cells #[.int .i64 p0, .int .i64 p1, .int .i64 p2, .int .i64 p3, .int .i64 p4, .int .i64 p5] 50)) (wr.heap.size + 1) 50 #[.int .i64 p0, .int .i64 p1, .int .i64 p2, .int .i64 p3, .int .i64 p4, .int .i64 p5]) := Lib.hid (blk_at (by simp))
              generalize World.alloc _ _ = WP at L1 P1 ⊢
              obtain ⟨ac, af⟩ := L1.out.ka.facts
              obtain ⟨bc, bf⟩ := L1.out.kb.facts
              obtain ⟨xc, xf⟩ := L1.out.kx.facts
              obtain ⟨yc, yf⟩ := L1.out.ky.facts
              obtain ⟨pc, pf⟩ := P1.out.facts
              have HMA : Hid (∀ W, Calls Tryz.prog 28 #[exV a.second a.minute a.hour a.day a.month a.week a.anyDay a.anyWeek, .agg #[.int .i64 p0, .int .i64 p1, .int .i64 p2, .int .i64 p3, .int .i64 p4, .int .i64 p5]] W fun e w' => e = .returned (.bool (Xs.mat a p0 p1 p2 p3 p4 p5)) ∧ Below W.heap.size W w') := Lib.hid fun W => law_matches a p0 p1 p2 p3 p4 p5 W (small_of_check Hca.out) (by omega) (by omega) (by omega) (by omega) (by omega) (by omega)
              have HMB : Hid (∀ W, Calls Tryz.prog 28 #[exV b.second b.minute b.hour b.day b.month b.week b.anyDay b.anyWeek, .agg #[.int .i64 p0, .int .i64 p1, .int .i64 p2, .int .i64 p3, .int .i64 p4, .int .i64 p5]] W fun e w' => e = .returned (.bool (Xs.mat b p0 p1 p2 p3 p4 p5)) ∧ Below W.heap.size W w') := Lib.hid fun W => law_matches b p0 p1 p2 p3 p4 p5 W (small_of_check Hcb.out) (by omega) (by omega) (by omega) (by omega) (by omega) (by omega)
              have hx := (Hm.out p0 p1 p2 p4 p3 p5 (by omega) (by omega) (by omega)).2 (by first | rfl | trivial)
              generalize Xs.mat a p0 p1 p2 p3 p4 p5 = mA at *
              generalize Xs.mat b p0 p1 p2 p3 p4 p5 = mB at *
              clear r0 r1 r2 r3 r4 r5 b0 b1 b2 b3 b4 b5
              cases mA with
              | false =>
                clear hx HMB
                go_wp2_with (go_at_call 28; (with_reducible refine (HMA.out _).mono ?_); clear ac af bc bf xc xf yc yf pc pf; rintro e v2 ⟨rfl, hv⟩; have L2 := Lib.hid (L1.out.grow hv); have P2 := Lib.hid (P1.out.below hv P1.out.lt); clear hv; obtain ⟨ac, af⟩ := L2.out.ka.facts; obtain ⟨bc, bf⟩ := L2.out.kb.facts; obtain ⟨xc, xf⟩ := L2.out.kx.facts; obtain ⟨yc, yf⟩ := L2.out.ky.facts; obtain ⟨pc, pf⟩ := P2.out.facts)
                go_roundw
                case rel => exact ⟨j + 1, by omega, by go_num, L2.out⟩
                case measure => simp [intOf]; omega
              | true =>
                rw [Bool.true_and] at hx
                subst hx
                go_wp2_with (first | (go_at_call 28; (with_reducible refine (HMA.out _).mono ?_); clear ac af bc bf xc xf yc yf pc pf; rintro e v2 ⟨rfl, hv⟩; have L2 := Lib.hid (L1.out.grow hv); have P2 := Lib.hid (P1.out.below hv P1.out.lt); clear hv; obtain ⟨ac, af⟩ := L2.out.ka.facts; obtain ⟨bc, bf⟩ := L2.out.kb.facts; obtain ⟨xc, xf⟩ := L2.out.kx.facts; obtain ⟨yc, yf⟩ := L2.out.ky.facts; obtain ⟨pc, pf⟩ := P2.out.facts) | (go_at_call 28; (with_reducible refine (HMB.out _).mono ?_); clear ac af bc bf xc xf yc yf pc pf; rintro e v3 ⟨rfl, hv⟩; have L3 := Lib.hid (L2.out.grow hv); have P3 := Lib.hid (P2.out.below hv P2.out.lt); clear hv; obtain ⟨ac, af⟩ := L3.out.ka.facts; obtain ⟨bc, bf⟩ := L3.out.kb.facts; obtain ⟨xc, xf⟩ := L3.out.kx.facts; obtain ⟨yc, yf⟩ := L3.out.ky.facts; obtain ⟨pc, pf⟩ := P3.out.facts))
                go_roundw
                case rel => exact ⟨j + 1, by omega, by go_num, L3.out⟩
                case measure => simp [intOf]; omega
            · obtain rfl : j = N := by omega
              clear hcell hj hjN
              go_wp2_with (go_at_call 12; (with_reducible refine (HW.out _ (HX.out.grow HR.out.bl)).mono ?_); rintro e w9 ⟨rfl, hb9⟩)
              go_ret
              exact ⟨rfl, HR.out.bl.trans (hb9.mono HR.out.bl.size)⟩
      | true =>
        have Hcx : Hid (Xs.checkB KX x = true) := Lib.hid (hx ▸ Xs.both_valid Hca.out Hcb.out hi)
        have Hcy : Hid (Xs.checkB KX y = true) := Lib.hid (hy ▸ Xs.both_valid Hcb.out Hca.out (by rw [hr2]))
        have HB1 : Hid (∀ W, Tabs W → Calls Tryz.prog 27 #[exV a.second a.minute a.hour a.day a.month a.week a.anyDay a.anyWeek, exV b.second b.minute b.hour b.day b.month b.week b.anyDay b.anyWeek] W fun e w' => e = .returned (.tuple #[exV x.second x.minute x.hour x.day x.month x.week x.anyDay x.anyWeek, .bool true, .int .i64 0]) ∧ Below W.heap.size W w') := HBa
        have HB2 : Hid (∀ W, Tabs W → Calls Tryz.prog 27 #[exV b.second b.minute b.hour b.day b.month b.week b.anyDay b.anyWeek, exV a.second a.minute a.hour a.day a.month a.week a.anyDay a.anyWeek] W fun e w' => e = .returned (.tuple #[exV y.second y.minute y.hour y.day y.month y.week y.anyDay y.anyWeek, .bool true, .int .i64 0]) ∧ Below W.heap.size W w') := HBb
        have HC1 : Hid (∀ W, Tabs W → Calls Tryz.prog 23 #[exV x.second x.minute x.hour x.day x.month x.week x.anyDay x.anyWeek] W fun e w' => e = .returned (.int .i64 0) ∧ Below W.heap.size W w') := Lib.hid fun W h => by
          have := expr_Check x W (small_of_check Hcx.out) h
          rw [chk_ok Hcx.out] at this
          exact this
        have HC2 : Hid (∀ W, Tabs W → Calls Tryz.prog 23 #[exV y.second y.minute y.hour y.day y.month y.week y.anyDay y.anyWeek] W fun e w' => e = .returned (.int .i64 0) ∧ Below W.heap.size W w') := Lib.hid fun W h => by
          have := expr_Check y W (small_of_check Hcy.out) h
          rw [chk_ok Hcy.out] at this
          exact this
        clear HBa HBb hq hz hcm hx hy hi hr1 hr2
        go_upto_region 8 with (first
          | (go_at_call 27; (with_reducible refine (HB1.out _ XC.out.tabs).mono ?_); clear HB1 ac af bc bf; rintro e w1 ⟨rfl, hb1⟩; have KA2 := Lib.hid ((KAh.out.below hb1 KAh.out.lt).alloc (.cells (exC x.second x.minute x.hour x.day x.month x.week x.anyDay x.anyWeek) 25)); have KB2 := Lib.hid ((KBh.out.below hb1 KBh.out.lt).alloc (.cells (exC x.second x.minute x.hour x.day x.month x.week x.anyDay x.anyWeek) 25)); have KX2 := Lib.hid (Blk.new w1 25 (exC x.second x.minute x.hour x.day x.month x.week x.anyDay x.anyWeek)); have B2 := Lib.hid ((BL.out.trans (hb1.mono BL.out.size)).alloc (Nat.le_trans BL.out.size hb1.size) (.cells (exC x.second x.minute x.hour x.day x.month x.week x.anyDay x.anyWeek) 25)); clear hb1; have X2 := Lib.hid (HX.out.grow B2.out); obtain ⟨ac, af⟩ := KA2.out.facts; obtain ⟨bc, bf⟩ := KB2.out.facts)
          | (go_at_call 27; (with_reducible refine (HB2.out _ X2.out.tabs).mono ?_); clear HB2 ac af bc bf; rintro e w2 ⟨rfl, hb2⟩; have KA3 := Lib.hid ((KA2.out.below hb2 KA2.out.lt).alloc (.cells (exC y.second y.minute y.hour y.day y.month y.week y.anyDay y.anyWeek) 25)); have KB3 := Lib.hid ((KB2.out.below hb2 KB2.out.lt).alloc (.cells (exC y.second y.minute y.hour y.day y.month y.week y.anyDay y.anyWeek) 25)); have KX3 := Lib.hid ((KX2.out.below hb2 KX2.out.lt).alloc (.cells (exC y.second y.minute y.hour y.day y.month y.week y.anyDay y.anyWeek) 25)); have KY3 := Lib.hid (Blk.new w2 25 (exC y.second y.minute y.hour y.day y.month y.week y.anyDay y.anyWeek)); have B3 := Lib.hid ((B2.out.trans (hb2.mono B2.out.size)).alloc (Nat.le_trans B2.out.size hb2.size) (.cells (exC y.second y.minute y.hour y.day y.month y.week y.anyDay y.anyWeek) 25)); clear hb2; have X3 := Lib.hid (HX.out.grow B3.out); obtain ⟨ac, af⟩ := KA3.out.facts; obtain ⟨bc, bf⟩ := KB3.out.facts; obtain ⟨xc, xf⟩ := KX3.out.facts)
          | (go_at_call 23; (with_reducible refine (HC1.out _ X3.out.tabs).mono ?_); clear HC1 ac af bc bf xc xf; rintro e w3 ⟨rfl, hb3⟩; have KA4 := Lib.hid (KA3.out.below hb3 KA3.out.lt); have KB4 := Lib.hid (KB3.out.below hb3 KB3.out.lt); have KX4 := Lib.hid (KX3.out.below hb3 KX3.out.lt); have KY4 := Lib.hid (KY3.out.below hb3 KY3.out.lt); have B4 := Lib.hid (B3.out.trans (hb3.mono B3.out.size)); clear hb3; have X4 := Lib.hid (HX.out.grow B4.out); obtain ⟨yc, yf⟩ := KY4.out.facts)
          | (go_at_call 23; (with_reducible refine (HC2.out _ X4.out.tabs).mono ?_); clear HC2 yc yf; rintro e w4 ⟨rfl, hb4⟩; have KA5 := Lib.hid (KA4.out.below hb4 KA4.out.lt); have KB5 := Lib.hid (KB4.out.below hb4 KB4.out.lt); have KX5 := Lib.hid (KX4.out.below hb4 KX4.out.lt); have KY5 := Lib.hid (KY4.out.below hb4 KY4.out.lt); have B5 := Lib.hid (B4.out.trans (hb4.mono B4.out.size)); clear hb4))
        have L0 : Hid (MeetL w (exC a.second a.minute a.hour a.day a.month a.week a.anyDay a.anyWeek) (exC b.second b.minute b.hour b.day b.month b.week b.anyDay b.anyWeek) (exC x.second x.minute x.hour x.day x.month x.week x.anyDay x.anyWeek) (exC y.second y.minute y.hour y.day y.month y.week y.anyDay y.anyWeek) gA gB w1.heap.size w2.heap.size _) := Lib.hid ⟨KA5.out, KB5.out, KX5.out, KY5.out, B5.out⟩
        rcases Hs.out with h0 | ⟨bk, off, rfl, hbk, hcell⟩
        · subst h0
          clear Hs Hm Hm2
          cases A with
          | none =>
            obtain rfl := hA rfl
            go_wp2_with fail
            go_loopw [110] (fun i wr => i = .int .i64 0 ∧ MeetL w (exC a.second a.minute a.hour a.day a.month a.week a.anyDay a.anyWeek) (exC b.second b.minute b.hour b.day b.month b.week b.anyDay b.anyWeek) (exC x.second x.minute x.hour x.day x.month x.week x.anyDay x.anyWeek) (exC y.second y.minute y.hour y.day y.month y.week y.anyDay y.anyWeek) gA gB w1.heap.size w2.heap.size wr) (fun _ _ => 0)
            case atStart => exact ⟨rfl, L0.out⟩
            case round =>
              obtain ⟨rfl, hrest⟩ := hrel
              have HR := Lib.hid hrest
              clear hrest
              go_wp2_with (go_at_call 12; (with_reducible refine (HW.out _ (HX.out.grow HR.out.bl)).mono ?_); rintro e w9 ⟨rfl, hb9⟩)
              go_ret
              exact ⟨rfl, HR.out.bl.trans (hb9.mono HR.out.bl.size)⟩
          | some A =>
            go_wp2_with fail
            go_loopw [110] (fun i wr => i = .int .i64 0 ∧ MeetL w (exC a.second a.minute a.hour a.day a.month a.week a.anyDay a.anyWeek) (exC b.second b.minute b.hour b.day b.month b.week b.anyDay b.anyWeek) (exC x.second x.minute x.hour x.day x.month x.week x.anyDay x.anyWeek) (exC y.second y.minute y.hour y.day y.month y.week y.anyDay y.anyWeek) gA gB w1.heap.size w2.heap.size wr) (fun _ _ => 0)
            case atStart => exact ⟨rfl, L0.out⟩
            case round =>
              obtain ⟨rfl, hrest⟩ := hrel
              have HR := Lib.hid hrest
              clear hrest
              go_wp2_with (go_at_call 12; (with_reducible refine (HW.out _ (HX.out.grow HR.out.bl)).mono ?_); rintro e w9 ⟨rfl, hb9⟩)
              go_ret
              exact ⟨rfl, HR.out.bl.trans (hb9.mono HR.out.bl.size)⟩
        · obtain ⟨N, hN⟩ : ∃ N, N = min n 40 := ⟨_, rfl⟩
          have hmin : min (n : Int) 40 = (N : Int) := by omega
          have hN1 : N ≤ n := by omega
          have hN2 : N ≤ c := by omega
          have hN3 : N ≤ 40 := by omega
          clear hN Hs
          go_wp2_with fail
          clear hmin
          go_loopw [110] (fun i wr => ∃ j : Nat, j ≤ N ∧ i = .int .i64 j ∧ MeetL w (exC a.second a.minute a.hour a.day a.month a.week a.anyDay a.anyWeek) (exC b.second b.minute b.hour b.day b.month b.week b.anyDay b.anyWeek) (exC x.second x.minute x.hour x.day x.month x.week x.anyDay x.anyWeek) (exC y.second y.minute y.hour y.day y.month y.week y.anyDay y.anyWeek) gA gB w1.heap.size w2.heap.size wr) (fun i _ => 41 - (intOf i).toNat)
          case atStart => exact ⟨0, Nat.zero_le _, rfl, L0.out⟩
          case round =>
            obtain ⟨j, hjN, rfl, hrest⟩ := hrel
            have HR := Lib.hid hrest
            clear hrest
            by_cases hj : j < N
            · obtain ⟨t, ht⟩ := hcell j (by omega)
              have hbl : Below w.heap.size w wr := HR.out.bl
              have d0 : wr.cell? ⟨bk, off + j * 6, none⟩ = some (.int .u8 (t 0)) := (hbl.cell (p := ⟨bk, off + (j * 6 + 0), none⟩) hbk).trans (ht 0 (by decide)).2
              have d1 : wr.cell? ⟨bk, off + j * 6 + 1, none⟩ = some (.int .u8 (t 1)) := (hbl.cell (p := ⟨bk, off + (j * 6 + 1), none⟩) hbk).trans (ht 1 (by decide)).2
              have d2 : wr.cell? ⟨bk, off + j * 6 + 2, none⟩ = some (.int .u8 (t 2)) := (hbl.cell (p := ⟨bk, off + (j * 6 + 2), none⟩) hbk).trans (ht 2 (by decide)).2
              have d3 : wr.cell? ⟨bk, off + j * 6 + 3, none⟩ = some (.int .u8 (t 3)) := (hbl.cell (p := ⟨bk, off + (j * 6 + 3), none⟩) hbk).trans (ht 3 (by decide)).2
              have d4 : wr.cell? ⟨bk, off + j * 6 + 4, none⟩ = some (.int .u8 (t 4)) := (hbl.cell (p := ⟨bk, off + (j * 6 + 4), none⟩) hbk).trans (ht 4 (by decide)).2
              have d5 : wr.cell? ⟨bk, off + j * 6 + 5, none⟩ = some (.int .u8 (t 5)) := (hbl.cell (p := ⟨bk, off + (j * 6 + 5), none⟩) hbk).trans (ht 5 (by decide)).2
              have b0 := (ht 0 (by decide)).1
              have b1 := (ht 1 (by decide)).1
              have b2 := (ht 2 (by decide)).1
              have b3 := (ht 3 (by decide)).1
              have b4 := (ht 4 (by decide)).1
              have b5 := (ht 5 (by decide)).1
              have Hcell := Lib.hid hcell
              clear ht hbl hcell
              generalize t 0 = t0 at *
              generalize t 1 = t1 at *
              generalize t 2 = t2 at *
              generalize t 3 = t3 at *
              generalize t 4 = t4 at *
              generalize t 5 = t5 at *
              obtain ⟨p0, hp0⟩ : ∃ p, p = t0 % 60 := ⟨_, rfl⟩
              have q0 : (t0 : Int) % 60 = (p0 : Int) := by omega
              have r0 : p0 ≤ 59 := by omega
              obtain ⟨p1, hp1⟩ : ∃ p, p = t1 % 60 := ⟨_, rfl⟩
              have q1 : (t1 : Int) % 60 = (p1 : Int) := by omega
              have r1 : p1 ≤ 59 := by omega
              obtain ⟨p2, hp2⟩ : ∃ p, p = t2 % 24 := ⟨_, rfl⟩
              have q2 : (t2 : Int) % 24 = (p2 : Int) := by omega
              have r2 : p2 ≤ 23 := by omega
              obtain ⟨p3, hp3⟩ : ∃ p, p = 1 + t3 % 31 := ⟨_, rfl⟩
              have q3 : 1 + (t3 : Int) % 31 = (p3 : Int) := by omega
              have r3 : 1 ≤ p3 ∧ p3 ≤ 31 := by omega
              obtain ⟨p4, hp4⟩ : ∃ p, p = 1 + t4 % 12 := ⟨_, rfl⟩
              have q4 : 1 + (t4 : Int) % 12 = (p4 : Int) := by omega
              have r4 : 1 ≤ p4 ∧ p4 ≤ 12 := by omega
              obtain ⟨p5, hp5⟩ : ∃ p, p = t5 % 7 := ⟨_, rfl⟩
              have q5 : (t5 : Int) % 7 = (p5 : Int) := by omega
              have r5 : p5 ≤ 6 := by omega
              clear hp0 hp1 hp2 hp3 hp4 hp5
              go_upto_region 12 with fail
              try rw [q0, q1, q2, q3, q4, q5]
              clear q0 q1 q2 q3 q4 q5 d0 d1 d2 d3 d4 d5
              have L1 := Lib.hid ((HR.out.alloc (.cells #[.int .u8 t0, .int .u8 t1, .int .u8 t2, .int .u8 t3, .int .u8 t4, .int .u8 t5] 49)).alloc (.cells #[.int .i64 p0, .int .i64 p1, .int .i64 p2, .int .i64 p3, .int .i64 p4, .int .i64 p5] 50))
              have P1 : Hid (Blk ((wr.alloc (.cells #[.int .u8 t0, .int .u8 t1, .int .u8 t2, .int .u8 t3, .int .u8 t4, .int .u8 t5] 49)).alloc (.cells #[.int .i64 p0, .int .i64 p1, .int .i64 p2, .int .i64 p3, .int .i64 p4, .int .i64 p5] 50)) (wr.heap.size + 1) 50 #[.int .i64 p0, .int .i64 p1, .int .i64 p2, .int .i64 p3, .int .i64 p4, .int .i64 p5]) := Lib.hid (blk_at (by simp))
              generalize World.alloc _ _ = WP at L1 P1 ⊢
              obtain ⟨ac, af⟩ := L1.out.ka.facts
              obtain ⟨bc, bf⟩ := L1.out.kb.facts
              obtain ⟨xc, xf⟩ := L1.out.kx.facts
              obtain ⟨yc, yf⟩ := L1.out.ky.facts
              obtain ⟨pc, pf⟩ := P1.out.facts
              have HMA : Hid (∀ W, Calls Tryz.prog 28 #[exV a.second a.minute a.hour a.day a.month a.week a.anyDay a.anyWeek, .agg #[.int .i64 p0, .int .i64 p1, .int .i64 p2, .int .i64 p3, .int .i64 p4, .int .i64 p5]] W fun e w' => e = .returned (.bool (Xs.mat a p0 p1 p2 p3 p4 p5)) ∧ Below W.heap.size W w') := Lib.hid fun W => law_matches a p0 p1 p2 p3 p4 p5 W (small_of_check Hca.out) (by omega) (by omega) (by omega) (by omega) (by omega) (by omega)
              have HMB : Hid (∀ W, Calls Tryz.prog 28 #[exV b.second b.minute b.hour b.day b.month b.week b.anyDay b.anyWeek, .agg #[.int .i64 p0, .int .i64 p1, .int .i64 p2, .int .i64 p3, .int .i64 p4, .int .i64 p5]] W fun e w' => e = .returned (.bool (Xs.mat b p0 p1 p2 p3 p4 p5)) ∧ Below W.heap.size W w') := Lib.hid fun W => law_matches b p0 p1 p2 p3 p4 p5 W (small_of_check Hcb.out) (by omega) (by omega) (by omega) (by omega) (by omega) (by omega)
              have HMX : Hid (∀ W, Calls Tryz.prog 28 #[exV x.second x.minute x.hour x.day x.month x.week x.anyDay x.anyWeek, .agg #[.int .i64 p0, .int .i64 p1, .int .i64 p2, .int .i64 p3, .int .i64 p4, .int .i64 p5]] W fun e w' => e = .returned (.bool (Xs.mat x p0 p1 p2 p3 p4 p5)) ∧ Below W.heap.size W w') := Lib.hid fun W => law_matches x p0 p1 p2 p3 p4 p5 W (small_of_check Hcx.out) (by omega) (by omega) (by omega) (by omega) (by omega) (by omega)
              have HMY : Hid (∀ W, Calls Tryz.prog 28 #[exV y.second y.minute y.hour y.day y.month y.week y.anyDay y.anyWeek, .agg #[.int .i64 p0, .int .i64 p1, .int .i64 p2, .int .i64 p3, .int .i64 p4, .int .i64 p5]] W fun e w' => e = .returned (.bool (Xs.mat y p0 p1 p2 p3 p4 p5)) ∧ Below W.heap.size W w') := Lib.hid fun W => law_matches y p0 p1 p2 p3 p4 p5 W (small_of_check Hcy.out) (by omega) (by omega) (by omega) (by omega) (by omega) (by omega)
              have hx := (Hm.out p0 p1 p2 p4 p3 p5 (by omega) (by omega) (by omega)).1 (by first | rfl | trivial)
              have hy := (Hm2.out p0 p1 p2 p4 p3 p5 (by omega) (by omega) (by omega)).1 (by first | rfl | trivial)
              try simp only at hx hy
              generalize Xs.mat x p0 p1 p2 p3 p4 p5 = mX at hx HMX
              generalize Xs.mat y p0 p1 p2 p3 p4 p5 = mY at hy HMY
              generalize Xs.mat a p0 p1 p2 p3 p4 p5 = mA at *
              generalize Xs.mat b p0 p1 p2 p3 p4 p5 = mB at *
              clear r0 r1 r2 r3 r4 r5 b0 b1 b2 b3 b4 b5
              cases mA with
              | false =>
                have HMx := HMX; rw [hx, Bool.false_and] at HMx
                have HMy := HMY; rw [hy, Bool.and_false] at HMy
                clear HMX HMY hx hy HMB
                go_wp2_with (first | (go_at_call 28; (with_reducible refine (HMA.out _).mono ?_); clear ac af bc bf xc xf yc yf pc pf; rintro e v2 ⟨rfl, hv⟩; have L2 := Lib.hid (L1.out.grow hv); have P2 := Lib.hid (P1.out.below hv P1.out.lt); clear hv; obtain ⟨ac, af⟩ := L2.out.ka.facts; obtain ⟨bc, bf⟩ := L2.out.kb.facts; obtain ⟨xc, xf⟩ := L2.out.kx.facts; obtain ⟨yc, yf⟩ := L2.out.ky.facts; obtain ⟨pc, pf⟩ := P2.out.facts) | (go_at_call 28; (with_reducible refine (HMx.out _).mono ?_); clear ac af bc bf xc xf yc yf pc pf; rintro e v3 ⟨rfl, hv⟩; have L3 := Lib.hid (L2.out.grow hv); have P3 := Lib.hid (P2.out.below hv P2.out.lt); clear hv; obtain ⟨ac, af⟩ := L3.out.ka.facts; obtain ⟨bc, bf⟩ := L3.out.kb.facts; obtain ⟨xc, xf⟩ := L3.out.kx.facts; obtain ⟨yc, yf⟩ := L3.out.ky.facts; obtain ⟨pc, pf⟩ := P3.out.facts) | (go_at_call 28; (with_reducible refine (HMy.out _).mono ?_); clear ac af bc bf xc xf yc yf pc pf; rintro e v4 ⟨rfl, hv⟩; have L4 := Lib.hid (L3.out.grow hv); have P4 := Lib.hid (P3.out.below hv P3.out.lt); clear hv; obtain ⟨ac, af⟩ := L4.out.ka.facts; obtain ⟨bc, bf⟩ := L4.out.kb.facts; obtain ⟨xc, xf⟩ := L4.out.kx.facts; obtain ⟨yc, yf⟩ := L4.out.ky.facts; obtain ⟨pc, pf⟩ := P4.out.facts))
                go_roundw
                case rel => exact ⟨j + 1, by omega, by go_num, L4.out⟩
                case measure => simp [intOf]; omega
              | true =>
                cases mB with
                | false =>
                  have HMx := HMX; rw [hx, Bool.true_and] at HMx
                  have HMy := HMY; rw [hy, Bool.and_true] at HMy
                  clear HMX HMY hx hy
                  go_wp2_with (first | (go_at_call 28; (with_reducible refine (HMA.out _).mono ?_); clear ac af bc bf xc xf yc yf pc pf; rintro e v2 ⟨rfl, hv⟩; have L2 := Lib.hid (L1.out.grow hv); have P2 := Lib.hid (P1.out.below hv P1.out.lt); clear hv; obtain ⟨ac, af⟩ := L2.out.ka.facts; obtain ⟨bc, bf⟩ := L2.out.kb.facts; obtain ⟨xc, xf⟩ := L2.out.kx.facts; obtain ⟨yc, yf⟩ := L2.out.ky.facts; obtain ⟨pc, pf⟩ := P2.out.facts) | (go_at_call 28; (with_reducible refine (HMB.out _).mono ?_); clear ac af bc bf xc xf yc yf pc pf; rintro e v3 ⟨rfl, hv⟩; have L3 := Lib.hid (L2.out.grow hv); have P3 := Lib.hid (P2.out.below hv P2.out.lt); clear hv; obtain ⟨ac, af⟩ := L3.out.ka.facts; obtain ⟨bc, bf⟩ := L3.out.kb.facts; obtain ⟨xc, xf⟩ := L3.out.kx.facts; obtain ⟨yc, yf⟩ := L3.out.ky.facts; obtain ⟨pc, pf⟩ := P3.out.facts) | (go_at_call 28; (with_reducible refine (HMx.out _).mono ?_); clear ac af bc bf xc xf yc yf pc pf; rintro e v4 ⟨rfl, hv⟩; have L4 := Lib.hid (L3.out.grow hv); have P4 := Lib.hid (P3.out.below hv P3.out.lt); clear hv; obtain ⟨ac, af⟩ := L4.out.ka.facts; obtain ⟨bc, bf⟩ := L4.out.kb.facts; obtain ⟨xc, xf⟩ := L4.out.kx.facts; obtain ⟨yc, yf⟩ := L4.out.ky.facts; obtain ⟨pc, pf⟩ := P4.out.facts) | (go_at_call 28; (with_reducible refine (HMy.out _).mono ?_); clear ac af bc bf xc xf yc yf pc pf; rintro e v5 ⟨rfl, hv⟩; have L5 := Lib.hid (L4.out.grow hv); have P5 := Lib.hid (P4.out.below hv P4.out.lt); clear hv; obtain ⟨ac, af⟩ := L5.out.ka.facts; obtain ⟨bc, bf⟩ := L5.out.kb.facts; obtain ⟨xc, xf⟩ := L5.out.kx.facts; obtain ⟨yc, yf⟩ := L5.out.ky.facts; obtain ⟨pc, pf⟩ := P5.out.facts))
                  go_roundw
                  case rel => exact ⟨j + 1, by omega, by go_num, L5.out⟩
                  case measure => simp [intOf]; omega
                | true =>
                  have HMx := HMX; rw [hx, Bool.true_and] at HMx
                  have HMy := HMY; rw [hy, Bool.and_true] at HMy
                  clear HMX HMY hx hy
                  go_wp2_with (first | (go_at_call 28; (with_reducible refine (HMA.out _).mono ?_); clear ac af bc bf xc xf yc yf pc pf; rintro e v2 ⟨rfl, hv⟩; have L2 := Lib.hid (L1.out.grow hv); have P2 := Lib.hid (P1.out.below hv P1.out.lt); clear hv; obtain ⟨ac, af⟩ := L2.out.ka.facts; obtain ⟨bc, bf⟩ := L2.out.kb.facts; obtain ⟨xc, xf⟩ := L2.out.kx.facts; obtain ⟨yc, yf⟩ := L2.out.ky.facts; obtain ⟨pc, pf⟩ := P2.out.facts) | (go_at_call 28; (with_reducible refine (HMB.out _).mono ?_); clear ac af bc bf xc xf yc yf pc pf; rintro e v3 ⟨rfl, hv⟩; have L3 := Lib.hid (L2.out.grow hv); have P3 := Lib.hid (P2.out.below hv P2.out.lt); clear hv; obtain ⟨ac, af⟩ := L3.out.ka.facts; obtain ⟨bc, bf⟩ := L3.out.kb.facts; obtain ⟨xc, xf⟩ := L3.out.kx.facts; obtain ⟨yc, yf⟩ := L3.out.ky.facts; obtain ⟨pc, pf⟩ := P3.out.facts) | (go_at_call 28; (with_reducible refine (HMx.out _).mono ?_); clear ac af bc bf xc xf yc yf pc pf; rintro e v4 ⟨rfl, hv⟩; have L4 := Lib.hid (L3.out.grow hv); have P4 := Lib.hid (P3.out.below hv P3.out.lt); clear hv; obtain ⟨ac, af⟩ := L4.out.ka.facts; obtain ⟨bc, bf⟩ := L4.out.kb.facts; obtain ⟨xc, xf⟩ := L4.out.kx.facts; obtain ⟨yc, yf⟩ := L4.out.ky.facts; obtain ⟨pc, pf⟩ := P4.out.facts) | (go_at_call 28; (with_reducible refine (HMy.out _).mono ?_); clear ac af bc bf xc xf yc yf pc pf; rintro e v5 ⟨rfl, hv⟩; have L5 := Lib.hid (L4.out.grow hv); have P5 := Lib.hid (P4.out.below hv P4.out.lt); clear hv; obtain ⟨ac, af⟩ := L5.out.ka.facts; obtain ⟨bc, bf⟩ := L5.out.kb.facts; obtain ⟨xc, xf⟩ := L5.out.kx.facts; obtain ⟨yc, yf⟩ := L5.out.ky.facts; obtain ⟨pc, pf⟩ := P5.out.facts))
                  go_roundw
                  case rel => exact ⟨j + 1, by omega, by go_num, L5.out⟩
                  case measure => simp [intOf]; omega
            · obtain rfl : j = N := by omega
              clear hcell hj hjN
              go_wp2_with (go_at_call 12; (with_reducible refine (HW.out _ (HX.out.grow HR.out.bl)).mono ?_); rintro e w9 ⟨rfl, hb9⟩)
              go_ret
              exact ⟨rfl, HR.out.bl.trans (hb9.mono HR.out.bl.size)⟩

set_option maxRecDepth 100000 in
theorem contract (H : Type) (enc : TypeId × Value → H) (W : World) (base : Nat) (args : Array Value) (ds gs : List (DataW H)) (before : List MemPlace)
    (hval : ∀ (j : Nat) t v, Tryz.f7.params[j]? = some t → args[j]? = some v → Value.okWide Tryz.prog W .any base t v)
    (hW : DataW.Whole enc Tryz.prog Tryz.f7.params.toList Rows.exprMeetSpec.vars false W args.toList ds gs before) (hL : laidMetH Tryz.prog Rows.exprMeetRow.laid W) (hS : W.ShapedOpen Tryz.prog) :
    Calls Tryz.prog 7 args W fun e W' => ∃ v, e = .returned v ∧ Rows.exprMeetSpec.post enc Tryz.prog Tryz.f7 false true false false W args v W' := by
  have hT : TabX W := XRow.tabs_of hL hS
  have hW' := hW
  obtain ⟨p, q, hA0, hV, rfl, hfz, hnd⟩ := hW
  have hA : DataW.TrodAll enc Tryz.prog W 0 (fun _ => true) true Tryz.f7.params.toList args.toList ds p := hA0
  rw [Tryz.params7] at hA hval
  obtain ⟨v0, vs0, d0, ds0, p0, q0, hargs, rfl, rfl, h0, r0⟩ := trodAll_cons hA
  obtain ⟨v1, vs1, d1, ds1, p1, q1, rfl, rfl, rfl, h1, r1⟩ := trodAll_cons r0
  obtain ⟨v2, vs2, d2, ds2, p2, q2, rfl, rfl, rfl, h2, r2⟩ := trodAll_cons r1
  obtain ⟨rfl, rfl, rfl⟩ := trodAll_nil r2
  obtain rfl : args = #[v0, v1, v2] := by cases args; simp_all
  obtain ⟨rfl, rfl⟩ := trodVars_none hV
  have h0k := h0
  obtain ⟨l0, k0, rfl, hl0, hk0⟩ := XRow.open_sets (hval 0 42 v0 rfl rfl) h0
  have h1k := h1
  obtain ⟨l1, k1, rfl, hl1, hk1⟩ := XRow.open_sets (hval 1 42 v1 rfl rfl) h1
  have h2k := h2
  obtain ⟨A2, n2, c2, rfl, hn2, hc2, hA2, hs2⟩ := XRow.open_sixes (hval 2 46 v2 rfl rfl) h2
  clear hA0
  simp only [List.append_nil] at hW'
  refine (walk l0 k0 l1 k1 A2 n2 c2 hl0 hk0 hl1 hk1 hn2 hc2 hA2 W hT hs2).mono fun e W' ⟨he, hb⟩ => ?_
  subst he
  exact ⟨_, rfl, _, _, _, [], _, [], hW', trodAll_cons_mk (shut_bool Tryz.underlying4 _) trodAll_mk0, (trodAll_cons_mk (Below.trod (by kernel_rfl) (by kernel_rfl) (of_decide_eq_true (by kernel_rfl)) h0k hb (fun x hx => hW'.lt x (by first | (simpa using hx; done) | (simp [hx]; done)))) (trodAll_cons_mk (Below.trod (by kernel_rfl) (by kernel_rfl) (of_decide_eq_true (by kernel_rfl)) h1k hb (fun x hx => hW'.lt x (by first | (simpa using hx; done) | (simp [hx]; done)))) (trodAll_cons_mk (Below.trod (by kernel_rfl) (by kernel_rfl) (of_decide_eq_true (by kernel_rfl)) h2k hb (fun x hx => hW'.lt x (by first | (simpa using hx; done) | (simp [hx]; done)))) trodAll_mk0))), rfl, hb.frame _, fun h => by cases h⟩

set_option maxRecDepth 100000 in
theorem lifted (os : Os) (started : os.Started) (H : Type) (enc : TypeId × Value → H) (F : Stop.Interp) :
    ReturnsInHanded {} Tryz.checked os 7 .any ((OpenSpec.ofChange Rows.exprMeetSpec).preRow enc Tryz.prog Tryz.f7 Rows.exprMeetRow.domain false Rows.exprMeetRow.laid) (((OpenSpec.ofChange Rows.exprMeetSpec).at F).post enc Tryz.prog Tryz.f7 false true false false) := by
  refine returnsInHanded_of_row (C := Tryz.checked) (s := OpenSpec.ofChange Rows.exprMeetSpec) XRow.own started (by kernel_rfl) Tryz.func7
    (ChangeSpec.witness_shaped (enc := enc) (C := Tryz.checked) (os := os) (X := fun w _ => laidMetH Tryz.prog XRow.laidL w) false (World.laidAll Tryz.prog os XRow.laidL) #[.agg #[.int .u64 0, .int .u64 0, .int .u64 0, .int .u64 0, .int .u64 0, .int .u64 0, .int .u8 0], .agg #[.int .u64 0, .int .u64 0, .int .u64 0, .int .u64 0, .int .u64 0, .int .u64 0, .int .u8 0], .slice none 0 0] 8 (World.laidAll_os _ _ _)
      (XRow.wit_shaped os _) (by kernel_rfl) (by kernel_rfl) (by kernel_rfl) (XRow.wit_laid os _)) ?_
  intro W base args ds gs before hval hW _ _ _ hL hS _
  exact contract H enc W base args ds gs before hval hW hL hS

theorem said : Rows.ExprMeetSaid :=
  OpenClaim.holds_of_cond 7 Tryz.f7 rfl rfl rfl rfl rfl rfl rfl ⟨rfl, rfl, rfl, rfl, rfl⟩ rfl rfl rfl rfl rfl (by kernel_rfl) Tryz.func7 (by kernel_rfl)
    (of_decide_eq_true (by kernel_rfl)) (by unfold Func.isWrapper; first | (rw [if_pos (by decide +kernel)]; kernel_rfl) | (rw [if_neg (by decide +kernel)]; exact ⟨rfl, rfl⟩))
    (fun os started H enc _ F => by rw [OpenClaim.pre_eq_preRow]; exact lifted os started H enc F)

theorem plain (f : FuncId) (fn : Func) (hf : Tryz.pinned.checked.prog.funcNamed "wakeman/wakemanlaw07.ExprMeet" = some f) (hfn : Tryz.pinned.checked.prog.funcs[f]? = some fn) :
    true = Tryz.pinned.checked.prog.looks [] ∧ ∀ (j : Nat) t, fn.params[j]? = some t → Tryz.pinned.checked.prog.wantsStandIn t = false := by
  obtain rfl : f = 7 := Option.some.inj ((show Tryz.prog.funcNamed "wakeman/wakemanlaw07.ExprMeet" = some 7 by kernel_rfl).symm.trans hf) |>.symm
  obtain rfl : fn = Tryz.f7 := (Option.some.inj (Tryz.func7.symm.trans hfn)).symm
  refine ⟨by kernel_rfl, fun j t ht => ?_⟩
  rw [Tryz.params7] at ht
  have hm : t ∈ ([42, 42, 46] : List TypeId) := by simpa using Array.mem_of_getElem? ht
  have hall : (([42, 42, 46] : List TypeId).all fun u => !Tryz.prog.wantsStandIn u) = true := by kernel_rfl
  exact (show Tryz.prog.wantsStandIn t = false by simpa using List.all_eq_true.1 hall t hm)

theorem card : Rows.ExprMeetCardSaid :=
  Claim7.holds_tied_plain_at .later [] _ _ _ _ said (fun _ h => by cases h) (by kernel_rfl) (fun _ h => by cases h) exprMeet_row_tie rfl ⟨rfl, rfl⟩ (by kernel_rfl) rfl plain (by kernel_rfl)
#print axioms card
end Go.Proofs.YtjnlgaeedcklaaaGreatDoor.exprMeet
