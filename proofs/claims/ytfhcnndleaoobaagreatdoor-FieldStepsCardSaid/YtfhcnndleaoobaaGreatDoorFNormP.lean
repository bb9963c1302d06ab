/-
  The program: Normal.
-/
import Derived.Test.YtfhcnndleaoobaaGreatDoorFNameR
import Derived.Test.YtfhcnndleaoobaaGreatDoorFParseP
import Derived.Test.YtfhcnndleaoobaaGreatDoorFPrintP
set_option linter.unusedVariables false
set_option linter.unusedSimpArgs false
namespace Go.Proofs.YtfhcnndleaoobaaGreatDoor
open Go.RowKit

set_option maxHeartbeats 1000000 in
theorem field_Normal (s : ByteArray) (w : World) (lo hi : Int) (A : Option Addr) (c : Nat) (l : List ByteArray) (week : Bool) (h1 : -9223372036854775808 ≤ lo) (h2 : lo ≤ 9223372036854775807) (h3 : -9223372036854775808 ≤ hi) (h4 : hi ≤ 9223372036854775807)
    (hs : s.size ≤ 100000) (hn : l.length ≤ 1000) (hcc : l.length ≤ c) (hA : Names w w.heap.size A l) (hsz : ∀ s ∈ l, s.size ≤ 1000) (hT : Tabs w) (hset : (Fs.parse (kind lo hi l week) s.data.toList).1 < 18446744073709551616) :
    Calls Tryz.prog 19 #[.agg #[.int .i64 lo, .int .i64 hi, .slice A l.length c, .bool week], .string s] w fun e w' =>
      e = .returned (retNormal (Fs.normalB (kind lo hi l week) s.data.toList)) ∧ Below w.heap.size w w' := by
  have HA := Lib.hid hA; clear hA
  have HT := Lib.hid hT; clear hT
  have hpa : ∀ W, Names W W.heap.size A l → Tabs W → Calls Tryz.prog 15 #[.agg #[.int .i64 lo, .int .i64 hi, .slice A l.length c, .bool week], .string s] W fun e w' => e = .returned (retP (Fs.parse (kind lo hi l week) s.data.toList)) ∧ Below W.heap.size W w' := fun W hW hT => field_Parse s W lo hi A c l week h1 h2 h3 h4 hs hn hcc hW hsz hT
  have hpr : ∀ W, Names W W.heap.size A l → Tabs W → Calls Tryz.prog 22 #[.agg #[.int .i64 lo, .int .i64 hi, .slice A l.length c, .bool week], .int .u64 (Fs.parse (kind lo hi l week) s.data.toList).1, .bool (Fs.parse (kind lo hi l week) s.data.toList).2.1] W fun e w' => e = .returned (retPrint (Fs.printB (kind lo hi l week) (Fs.parse (kind lo hi l week) s.data.toList).1 (Fs.parse (kind lo hi l week) s.data.toList).2.1)) ∧ Below W.heap.size W w' := fun W hW hT => field_Print W lo hi A c l week _ _ h1 h2 h3 h4 hn hcc hW hsz hset hT
  unfold Fs.normalB
  generalize Fs.parse (kind lo hi l week) s.data.toList = p at *
  obtain ⟨S, star, a, e⟩ := p
  simp only [retP] at hpa hpr ⊢
  generalize Fs.printB (kind lo hi l week) S star = r at hpr ⊢
  obtain ⟨t, f⟩ := r
  simp only [retPrint] at hpr ⊢
  have HP := Lib.hid hpa
  have HR := Lib.hid hpr
  clear hpa hpr hsz hset
  by_cases he : e = 0
  · subst he
    rw [if_pos rfl]
    go_enter Tryz.func19, Tryz.ntmps19
    go_wp2_with (first
      | (go_at_call 15; ((with_reducible refine (HP.out _ (HA.out.alloc _) (HT.out.alloc _)).mono ?_)); rintro e w1 ⟨rfl, hb1⟩; have Hb1 := Lib.hid hb1; obtain ⟨hc1, hf1⟩ := bcell hb1)
      | (go_at_call 22; ((with_reducible refine (HR.out _ ((HA.out.alloc _).below Hb1.out Hb1.out.size) ((HT.out.alloc _).grow Hb1.out)).mono ?_)); rintro e w2 ⟨rfl, hb2⟩))
    go_ret3
    exact ⟨rfl, (((Below.refl _ _).alloc (Nat.le_refl _) _).trans (Hb1.out.mono (by simp))).trans (hb2.mono (by have := Hb1.out.size; simp at this; omega))⟩
  · rw [if_neg he]
    have hx : (e != 0) = true := by rw [bne_iff_ne]; exact he
    clear he
    go_enter Tryz.func19, Tryz.ntmps19
    go_wp2_with (first
      | (go_at_call 15; ((with_reducible refine (HP.out _ (HA.out.alloc _) (HT.out.alloc _)).mono ?_)); rintro e w1 ⟨rfl, hb1⟩))
    go_ret3
    exact ⟨rfl, ((Below.refl _ _).alloc (Nat.le_refl _) _).trans (hb1.mono (by simp))⟩


end Go.Proofs.YtfhcnndleaoobaaGreatDoor
