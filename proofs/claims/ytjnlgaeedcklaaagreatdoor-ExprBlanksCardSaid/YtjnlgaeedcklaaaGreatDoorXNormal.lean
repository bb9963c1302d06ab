/-
  The program's Normal.
-/
import Derived.Test.YtjnlgaeedcklaaaGreatDoorXParse
import Derived.Test.YtjnlgaeedcklaaaGreatDoorXSec
set_option linter.unusedVariables false
set_option linter.unusedSimpArgs false
namespace Go.Proofs.YtjnlgaeedcklaaaGreatDoor
open Go.RowKit

theorem normX_ok {s : List UInt8} {x : Xs.Ex} (hr : Xs.parse KX s = (x, 0, 0)) (hc : Xs.checkB KX x = true) : Xs.normalX KX s = (Xs.joinS (Xs.texts KX x), 0, 0) := by
  unfold Xs.normalX
  rw [hr, printX_ok hc]; rfl
theorem normX_bad {s : List UInt8} {p : Nat} {e : Int} (hr : Xs.parse KX s = (Xs.Ex.zero, p, e)) (he : e ≠ 0) : Xs.normalX KX s = ([], p, e) := by
  unfold Xs.normalX
  rw [hr, if_neg he]

/-- What Normal returns. -/
def retN (r : List UInt8 × Nat × Int) : Value := .tuple #[.string (strOf r.1), .int .i64 r.2.1, .int .i64 r.2.2]

set_option maxHeartbeats 2000000 in
theorem expr_Normal (s : ByteArray) (hs : s.size ≤ 100000) (w : World) (hX : TabX w) :
    Calls Tryz.prog 15 #[.string s] w fun e w' => e = .returned (retN (Xs.normalX KX s.data.toList)) ∧ Below w.heap.size w w' := by
  have HX := Lib.hid hX
  have hP := fun W h => expr_Parse s hs W h
  rcases Xs.parse_factsX kinds_ok mac_ok s.data.toList with ⟨h0, h1, hc⟩ | ⟨hz, hp, he⟩
  · obtain ⟨x, hx⟩ : ∃ x, (Xs.parse KX s.data.toList).1 = x := ⟨_, rfl⟩
    have hr : Xs.parse KX s.data.toList = (x, 0, 0) := Prod.ext hx (Prod.ext h1 h0)
    rw [hx] at hc
    have hN : Xs.normalX KX s.data.toList = (Xs.joinS (Xs.texts KX x), 0, 0) := normX_ok hr hc
    rw [hN]
    rw [hr] at hP
    have HP : Hid (∀ W, TabX W → Calls Tryz.prog 13 #[.string s] W fun e w' => e = .returned (.tuple #[exV x.second x.minute x.hour x.day x.month x.week x.anyDay x.anyWeek, .int .i64 0, .int .i64 0]) ∧ Below W.heap.size W w') := Lib.hid hP
    have hPr := fun W h => expr_Print x W (small_of_check hc) h
    rw [printX_ok hc] at hPr
    obtain ⟨T, hT⟩ : ∃ T, strOf (Xs.joinS (Xs.texts KX x)) = T := ⟨_, rfl⟩
    have HPr : Hid (∀ W, Tabs W → Calls Tryz.prog 19 #[exV x.second x.minute x.hour x.day x.month x.week x.anyDay x.anyWeek] W fun e w' => e = .returned (.tuple #[.string T, .int .i64 0]) ∧ Below W.heap.size W w') := Lib.hid (by rw [← hT]; exact hPr)
    show Calls _ _ _ _ fun e w' => e = .returned (.tuple #[.string (strOf (Xs.joinS (Xs.texts KX x))), .int .i64 0, .int .i64 0]) ∧ _
    rw [hT]
    clear hX hP h0 h1 hc hx hr hN hPr hT
    go_enter Tryz.func15, Tryz.ntmps15
    go_wp2_with (first
      | (go_at_call 13; (with_reducible refine (HP.out _ HX.out).mono ?_); rintro e w1 ⟨rfl, hb1⟩; have T1 := Lib.hid (HX.out.tabs.grow hb1); have B1 := Lib.hid hb1; clear hb1)
      | (go_at_call 19; (with_reducible refine (HPr.out _ (T1.out.alloc _)).mono ?_); rintro e w2 ⟨rfl, hb2⟩; have B2 := Lib.hid ((B1.out.alloc B1.out.size _).trans (hb2.mono (Nat.le_trans B1.out.size (by simp)))); clear hb2))
    exact bodyPost_ret (v := .tuple #[.string T, .int .i64 0, .int .i64 0]) (by simp [results, Tryz.results15, go_sem]) rfl ⟨rfl, B2.out⟩
  · obtain ⟨p, hp'⟩ : ∃ p, (Xs.parse KX s.data.toList).2.1 = p := ⟨_, rfl⟩
    obtain ⟨er, hr'⟩ : ∃ er, (Xs.parse KX s.data.toList).2.2 = er := ⟨_, rfl⟩
    have hr : Xs.parse KX s.data.toList = (Xs.Ex.zero, p, er) := Prod.ext hz (Prod.ext hp' hr')
    rw [hr'] at he
    rw [hp'] at hp
    have he0 : er ≠ 0 := by omega
    have hN : Xs.normalX KX s.data.toList = ([], p, er) := normX_bad hr he0
    rw [hN]
    rw [hr] at hP
    have HP : Hid (∀ W, TabX W → Calls Tryz.prog 13 #[.string s] W fun e w' => e = .returned (.tuple #[exV 0 0 0 0 0 0 false false, .int .i64 p, .int .i64 er]) ∧ Below W.heap.size W w') := Lib.hid hP
    have de : (er != 0) = true := by rw [bne, beq_eq_false_iff_ne.2 he0]; rfl
    have hp5 : p ≤ 100000 := by rw [Array.length_toList] at hp; exact Nat.le_trans hp hs
    show Calls _ _ _ _ fun e w' => e = .returned (.tuple #[.string ⟨#[]⟩, .int .i64 p, .int .i64 er]) ∧ _
    clear hX hP hz hp he hp' hr' hr hN he0
    go_enter Tryz.func15, Tryz.ntmps15
    go_wp2_with (go_at_call 13; (with_reducible refine (HP.out _ HX.out).mono ?_); rintro e w1 ⟨rfl, hb1⟩; have B1 := Lib.hid hb1; clear hb1)
    exact bodyPost_ret (v := .tuple #[.string ⟨#[]⟩, .int .i64 p, .int .i64 er]) (by simp [results, Tryz.results15, go_sem]) rfl ⟨rfl, B1.out.alloc B1.out.size _⟩
end Go.Proofs.YtjnlgaeedcklaaaGreatDoor
