/-
  The document's text: Normal, Name.
-/
import Derived.Test.YtfhcnndleaoobaaGreatDoorFPrintR2
import Derived.Test.YtfhcnndleaoobaaGreatDoorFRef8
set_option linter.unusedVariables false
set_option linter.unusedSimpArgs false
namespace Go.Proofs.YtfhcnndleaoobaaGreatDoor
open Go.RowKit

/-- What Normal returns. -/
def retNormal (p : List UInt8 × Nat × Int) : Value := .tuple #[.string ⟨p.1.toArray⟩, .int .i64 p.2.1, .int .i64 p.2.2]

set_option maxHeartbeats 1000000 in
theorem ref_Normal (s : ByteArray) (w : World) (lo hi : Int) (A : Option Addr) (c : Nat) (l : List ByteArray) (week : Bool) (h1 : -9223372036854775808 ≤ lo) (h2 : lo ≤ 9223372036854775807) (h3 : -9223372036854775808 ≤ hi) (h4 : hi ≤ 9223372036854775807)
    (hs : s.size ≤ 100000) (hn : l.length ≤ 1000) (hcc : l.length ≤ c) (hA : Names w w.heap.size A l) (hsz : ∀ s ∈ l, s.size ≤ 1000) (hset : (Fs.parse (kind lo hi l week) s.data.toList).1 < 18446744073709551616) :
    Calls Tryz.prog 20 #[.agg #[.int .i64 lo, .int .i64 hi, .slice A l.length c, .bool week], .string s] w fun e w' =>
      e = .returned (retNormal (Fs.normalB (kind lo hi l week) s.data.toList)) ∧ Below w.heap.size w w' := by
  have HA := Lib.hid hA; clear hA
  have hpa : ∀ W, Names W W.heap.size A l → Calls Tryz.prog 17 #[.agg #[.int .i64 lo, .int .i64 hi, .slice A l.length c, .bool week], .string s] W fun e w' => e = .returned (retP (Fs.parse (kind lo hi l week) s.data.toList)) ∧ Below W.heap.size W w' := fun W hW => ref_Parse s W lo hi A c l week h1 h2 h3 h4 hs hn hcc hW hsz
  have hpr : ∀ W, Names W W.heap.size A l → Calls Tryz.prog 23 #[.agg #[.int .i64 lo, .int .i64 hi, .slice A l.length c, .bool week], .int .u64 (Fs.parse (kind lo hi l week) s.data.toList).1, .bool (Fs.parse (kind lo hi l week) s.data.toList).2.1] W fun e w' => e = .returned (retPrint (Fs.printB (kind lo hi l week) (Fs.parse (kind lo hi l week) s.data.toList).1 (Fs.parse (kind lo hi l week) s.data.toList).2.1)) ∧ Below W.heap.size W w' := fun W hW => ref_Print W lo hi A c l week _ _ h1 h2 h3 h4 hn hcc hW hsz hset
  unfold Fs.normalB
  generalize Fs.parse (kind lo hi l week) s.data.toList = p at *
  obtain ⟨S, star, a, e⟩ := p
  simp only [retP] at hpa hpr ⊢
  generalize Fs.printB (kind lo hi l week) S star = r at hpr ⊢
  obtain ⟨t, f⟩ := r
  simp only [retPrint] at hpr ⊢
  have HP := Lib.hid hpa
  have HR := Lib.hid hpr
  clear hpa hpr hsz hset
  by_cases he : e = 0
  · subst he
    rw [if_pos rfl]
    go_enter Tryz.func20, Tryz.ntmps20
    go_wp2_with (first
      | (go_at_call 17; ((with_reducible refine (HP.out _ (HA.out.alloc _)).mono ?_)); rintro e w1 ⟨rfl, hb1⟩; have Hb1 := Lib.hid hb1; obtain ⟨hc1, hf1⟩ := bcell hb1)
      | (go_at_call 23; ((with_reducible refine (HR.out _ ((HA.out.alloc _).below Hb1.out Hb1.out.size)).mono ?_)); rintro e w2 ⟨rfl, hb2⟩))
    go_ret3
    exact ⟨rfl, (((Below.refl _ _).alloc (Nat.le_refl _) _).trans (Hb1.out.mono (by simp))).trans (hb2.mono (by have := Hb1.out.size; simp at this; omega))⟩
  · rw [if_neg he]
    have hx : (e != 0) = true := by rw [bne_iff_ne]; exact he
    clear he
    go_enter Tryz.func20, Tryz.ntmps20
    go_wp2_with (first
      | (go_at_call 17; ((with_reducible refine (HP.out _ (HA.out.alloc _)).mono ?_)); rintro e w1 ⟨rfl, hb1⟩))
    go_ret3
    exact ⟨rfl, ((Below.refl _ _).alloc (Nat.le_refl _) _).trans (hb1.mono (by simp))⟩

set_option maxHeartbeats 1000000 in
theorem ref_Name (w : World) (lo hi : Int) (A : Option Addr) (c : Nat) (l : List ByteArray) (week : Bool) (v : Int) (h1 : -9223372036854775808 ≤ lo) (h2 : lo ≤ 9223372036854775807) (h3 : -9223372036854775808 ≤ hi) (h4 : hi ≤ 9223372036854775807)
    (hn : l.length ≤ 1000) (hcc : l.length ≤ c) (hA : Names w w.heap.size A l) (hsz : ∀ s ∈ l, s.size ≤ 1000) :
    Calls Tryz.prog 29 #[.agg #[.int .i64 lo, .int .i64 hi, .slice A l.length c, .bool week], .int .i64 v] w fun e w' =>
      e = .returned (retPrint (Fs.nameB (kind lo hi l week) v)) ∧ Below w.heap.size w w' := by
  have HA := Lib.hid hA; clear hA
  have hck : ∀ W, Names W W.heap.size A l → Calls Tryz.prog 27 #[.agg #[.int .i64 lo, .int .i64 hi, .slice A l.length c, .bool week]] W fun e w' => e = .returned (.int .i64 (Fs.errOf (Fs.checkB (kind lo hi l week)))) ∧ Below W.heap.size W w' := fun W hW => ref_Check lo hi A c l week W h1 h2 h3 h4 hn hcc hW hsz
  generalize hr : Fs.nameB (kind lo hi l week) v = r
  unfold Fs.nameB at hr
  cases hb : Fs.checkB (kind lo hi l week) with
  | false =>
    rw [hb] at hr hck
    simp only [Bool.false_eq_true, if_false] at hr
    subst hr
    have HC := Lib.hid hck; clear hck hsz hb
    go_enter Tryz.func29, Tryz.ntmps29
    go_wp2_with (first | (go_at_call 27; ((with_reducible refine (HC.out _ (HA.out.alloc _)).mono ?_)); simp only [Fs.errOf]; rintro e w1 ⟨rfl, hb1⟩))
    go_ret2
    exact ⟨rfl, ((Below.refl _ _).alloc (Nat.le_refl _) _).trans (hb1.mono (by simp))⟩
  | true =>
    obtain ⟨b1, b2, b3, b4, b5⟩ := check_bounds hb
    have b6 : lo ≤ hi := by have := b3.1; omega
    have b7 : hi ≤ 62 := by have := b3.2.1; omega
    have hlenk : l = [] ∨ (l.length : Int) = hi - lo + 1 := by
      rw [kind_check, Bool.and_eq_true] at hb
      obtain ⟨_, _, _, _, a5⟩ := bounds_of _ _ _ _ hb.1
      rcases a5 with a5 | a5
      · exact .inl (List.length_eq_zero_iff.1 a5)
      · exact .inr a5
    rw [hb] at hr hck
    simp only [if_true] at hr
    have HC := Lib.hid hck; clear hck hsz hb b3
    by_cases hv1 : v < lo
    · rw [if_pos (.inl hv1)] at hr
      subst hr
      go_enter Tryz.func29, Tryz.ntmps29
      go_wp2_with (first | (go_at_call 27; ((with_reducible refine (HC.out _ (HA.out.alloc _)).mono ?_)); simp only [Fs.errOf]; rintro e w1 ⟨rfl, hb1⟩; have Hb1 := Lib.hid hb1; obtain ⟨hc1, hf1⟩ := bcell hb1))
      go_ret2
      exact ⟨rfl, ((Below.refl _ _).alloc (Nat.le_refl _) _).trans (Hb1.out.mono (by simp))⟩
    · by_cases hv2 : hi < v
      · rw [if_pos (.inr hv2)] at hr
        subst hr
        go_enter Tryz.func29, Tryz.ntmps29
        go_wp2_with (first | (go_at_call 27; ((with_reducible refine (HC.out _ (HA.out.alloc _)).mono ?_)); simp only [Fs.errOf]; rintro e w1 ⟨rfl, hb1⟩; have Hb1 := Lib.hid hb1; obtain ⟨hc1, hf1⟩ := bcell hb1))
        go_ret2
        exact ⟨rfl, ((Below.refl _ _).alloc (Nat.le_refl _) _).trans (Hb1.out.mono (by simp))⟩
      · rw [if_neg (by rintro (h | h); exact hv1 h; exact hv2 h)] at hr
        have hle : l = [] ∨ ((l.length : Int) = hi - lo + 1 ∧ l ≠ []) := by
          by_cases h : l = []
          · exact .inl h
          · exact .inr ⟨hlenk.resolve_left h, h⟩
        rcases hle with hl | ⟨hlk, hlne⟩
        · rw [if_pos (show (kind lo hi l week).names = [] from by simp [kind, hl])] at hr
          subst hr
          have hl0 : ((l.length : Int) == 0) = true := by rw [hl]; rfl
          clear hl
          go_enter Tryz.func29, Tryz.ntmps29
          go_wp2_with (first | (go_at_call 27; ((with_reducible refine (HC.out _ (HA.out.alloc _)).mono ?_)); simp only [Fs.errOf]; rintro e w1 ⟨rfl, hb1⟩; have Hb1 := Lib.hid hb1; obtain ⟨hc1, hf1⟩ := bcell hb1))
          go_ret2
          exact ⟨rfl, ((Below.refl _ _).alloc (Nat.le_refl _) _).trans (Hb1.out.mono (by simp))⟩
        · rcases HA.out with hl | ⟨b, off, rfl, hlt, hcs⟩
          · exact absurd hl hlne
          · have hlv : (v - lo).toNat < l.length := by omega
            have hq := hcs _ hlv
            have hres : r = ((l.getD (v - lo).toNat ByteArray.empty).data.toList, 0) := by
              rw [← hr, if_neg]
              · simp only [kind, List.getD_eq_getElem?_getD, List.getElem?_map, List.getElem?_eq_getElem hlv]
                rfl
              · intro h
                have := congrArg List.length h
                simp [kind] at this
                rw [this] at hlv
                simp at hlv
            have Hq := Lib.hid hq
            have Hres := Lib.hid hres
            have e1 : IntKind.i64.wrap (v - lo) = v - lo := IntWalk.i64_in _ (by omega)
            have e2 : (0 : Int) ≤ v - lo := by omega
            have e3 : lo ≤ v := by omega
            have hl0 : ((l.length : Int) == 0) = false := by rw [beq_eq_false_iff_ne]; omega
            have e4 : v - lo < (l.length : Int) := by omega
            clear hr hres hcs hlk
            go_enter Tryz.func29, Tryz.ntmps29
            go_wp2_with (first | (go_at_call 27; ((with_reducible refine (HC.out _ (HA.out.alloc _)).mono ?_)); simp only [Fs.errOf]; rintro e w1 ⟨rfl, hb1⟩; have Hb1 := Lib.hid hb1; obtain ⟨hc1, hf1⟩ := bcell hb1; have q1 : w1.cell? ⟨b, off + (v - lo).toNat, none⟩ = some (.string (l.getD (v - lo).toNat ByteArray.empty)) := (hb1.cell (p := ⟨b, off + (v - lo).toNat, none⟩) (by simp; omega)).trans ((World.cell?_alloc_past _ _ _ hlt).trans Hq.out)))
            go_ret2
            exact ⟨(show Ending.returned (.tuple #[.string (l[(v - lo).toNat]'hlv), .int .i64 0]) = _ from by rw [Hres.out]; simp only [retPrint, List.getD_eq_getElem?_getD, List.getElem?_eq_getElem hlv]; rfl), ((Below.refl _ _).alloc (Nat.le_refl _) _).trans (Hb1.out.mono (by simp))⟩

end Go.Proofs.YtfhcnndleaoobaaGreatDoor
