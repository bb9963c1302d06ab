/-
  The program's Seconds: how often an expression matches in a day that it matches.
-/
import Derived.Test.YtjnlgaeedcklaaaGreatDoorXCheck
import Derived.Test.YtjnlgaeedcklaaaGreatDoorXKinds
import Derived.BigQuiet
set_option linter.unusedVariables false
set_option linter.unusedSimpArgs false
namespace Go.Proofs.YtjnlgaeedcklaaaGreatDoor
open Go.RowKit

/-- The product of the three numbers. -/
def secX (x : Xs.Ex) : Nat := Xs.cnt 64 x.second * Xs.cnt 64 x.minute * Xs.cnt 64 x.hour

theorem chk_ok {x : Xs.Ex} (h : Xs.checkB KX x = true) : chk x = 0 := by unfold chk; rw [h]; rfl
theorem chk_bad {x : Xs.Ex} (h : Xs.checkB KX x = false) : chk x = 16 := by unfold chk; rw [h]; rfl

/-- A valid expression's sets are numbers of 64 bits. -/
theorem small_of_check {x : Xs.Ex} (h : Xs.checkB KX x = true) : SmallX x := ⟨fun k s hs => by
  have hk : k < 6 := by have := (List.getElem?_eq_some_iff.1 hs).1; simpa [Xs.Ex.sets] using this
  have h1 := ((Xs.check_all h).1 k s hs).2
  rw [← h1]
  exact Nat.lt_of_le_of_lt Nat.and_le_right (kx_lt k hk)⟩

set_option maxRecDepth 100000 in
set_option maxHeartbeats 2000000 in
theorem expr_Seconds (x : Xs.Ex) (w : World) (hx : SmallX x) (hT : Tabs w) :
    Calls Tryz.prog 21 #[exV x.second x.minute x.hour x.day x.month x.week x.anyDay x.anyWeek] w fun e w' => e = .returned (.tuple #[.int .i64 ((if Xs.checkB KX x then secX x else 0 : Nat) : Int), .int .i64 (chk x)]) ∧ Below w.heap.size w w' := by
  have HT := Lib.hid hT
  have HCk : Hid (∀ W, Tabs W → Calls Tryz.prog 23 #[exV x.second x.minute x.hour x.day x.month x.week x.anyDay x.anyWeek] W fun e w' => e = .returned (.int .i64 (chk x)) ∧ Below W.heap.size W w') := Lib.hid fun W h => expr_Check x W hx h
  cases hc : Xs.checkB KX x with
  | false =>
    rw [chk_bad hc] at HCk ⊢
    clear hc hT hx
    go_enter Tryz.func21, Tryz.ntmps21
    go_wp2_with (go_at_call 23; (with_reducible refine (HCk.out _ (HT.out.alloc _)).mono ?_); rintro e w1 ⟨rfl, hb1⟩; have HB := Lib.hid (((Below.refl _ w).alloc (Nat.le_refl _) _).trans (hb1.mono (by simp))); clear hb1)
    go_ret2
    exact ⟨rfl, HB.out⟩
  | true =>
    rw [chk_ok hc] at HCk ⊢
    have C1 := Lib.hid fun W => bits_count x.second W (hx.set 0 (by decide))
    have C2 := Lib.hid fun W => bits_count x.minute W (hx.set 1 (by decide))
    have C3 := Lib.hid fun W => bits_count x.hour W (hx.set 2 (by decide))
    have e1 := Xs.cnt_le 64 x.second
    have e2 := Xs.cnt_le 64 x.minute
    have e3 := Xs.cnt_le 64 x.hour
    rw [if_pos rfl]
    unfold secX
    generalize Xs.cnt 64 x.second = a at *
    generalize Xs.cnt 64 x.minute = b at *
    generalize Xs.cnt 64 x.hour = c at *
    obtain ⟨p, hp⟩ : ∃ p, a * b = p := ⟨_, rfl⟩
    obtain ⟨q, hq⟩ : ∃ q, p * c = q := ⟨_, rfl⟩
    rw [hp, hq]
    have hp' : (a : Int) * (b : Int) = (p : Int) := by rw [← hp]; exact (Int.natCast_mul a b).symm
    have hq' : (p : Int) * (c : Int) = (q : Int) := by rw [← hq]; exact (Int.natCast_mul p c).symm
    have p1 : p ≤ 4096 := by rw [← hp]; exact Nat.mul_le_mul e1 e2
    have q1 : q ≤ 262144 := by rw [← hq]; exact Nat.mul_le_mul p1 e3
    clear hp hq hc hT hx
    go_enter Tryz.func21, Tryz.ntmps21
    go_wp2_with (go_at_call 23; (with_reducible refine (HCk.out _ (HT.out.alloc _)).mono ?_); rintro e w1 ⟨rfl, hb1⟩; obtain ⟨kc, kf⟩ := ((Blk.new w 25 (exC x.second x.minute x.hour x.day x.month x.week x.anyDay x.anyWeek)).below hb1 (by simp)).facts; have HB := Lib.hid (((Below.refl _ w).alloc (Nat.le_refl _) _).trans (hb1.mono (by simp))); clear hb1)
    go_quiet (first
      | (go_at_call 26; exact quiet_of_left (C1.out _))
      | (go_at_call 26; exact quiet_of_left (C2.out _))
      | (go_at_call 26; exact quiet_of_left (C3.out _)))
    go_wp2
    go_ret2
    exact ⟨rfl, below_drewN HB.out _⟩
end Go.Proofs.YtjnlgaeedcklaaaGreatDoor
