/-
  The document's Words: the words of a text, and their places.
-/
import Derived.Test.YtjnlgaeedcklaaaGreatDoorXWords
import Derived.Test.YtjnlgaeedcklaaaGreatDoorFTabs
import Derived.Deep.AppendLies
import Derived.Deep.RegionLaw
set_option linter.unusedVariables false
set_option linter.unusedSimpArgs false
namespace Go.Proofs.YtjnlgaeedcklaaaGreatDoor
namespace Xs
open Fs (Bytes)

/-- What has been read of a text at the place I: the words so far, and the place at which the present word begins. -/
def WR (l : Bytes) (pre : List (Nat × Bytes)) (F I : Nat) : Prop :=
  (I ≤ l.length ∧ F ≤ I ∧ words l = pre ++ cut (l.drop I) I F ((l.drop F).take (I - F))) ∨ (I = l.length + 1 ∧ F = I ∧ words l = pre)
theorem WR.start (l : Bytes) : WR l [] 0 0 := .inl ⟨Nat.zero_le _, Nat.le_refl _, by simp [words]⟩
theorem WR.done {l : Bytes} {pre : List (Nat × Bytes)} {F I : Nat} (h : WR l pre F I) (hI : l.length < I) : words l = pre := by
  rcases h with ⟨h, _⟩ | ⟨_, _, h⟩
  · omega
  · exact h
theorem WR.cont {l : Bytes} {pre : List (Nat × Bytes)} {F I : Nat} {c : UInt8} (h : WR l pre F I) (hc : l[I]? = some c) (hb : blank c = false) : WR l pre F (I + 1) := by
  have hI : I < l.length := (List.getElem?_eq_some_iff.1 hc).1
  rcases h with ⟨_, hF, h⟩ | ⟨h, _⟩
  · refine .inl ⟨hI, by omega, ?_⟩
    rw [h, List.drop_eq_getElem_cons hI, (List.getElem?_eq_some_iff.1 hc).2, cut, if_neg (by rw [hb]; simp)]
    congr 2
    rw [show I + 1 - F = (I - F) + 1 by omega, List.take_add_one, List.getElem?_drop, show F + (I - F) = I by omega, hc, Option.toList_some]
  · omega
theorem WR.blank_no {l : Bytes} {pre : List (Nat × Bytes)} {I : Nat} (h : WR l pre I I) (hI : I ≤ l.length) (hb : ∀ c, l[I]? = some c → blank c = true) : WR l pre (I + 1) (I + 1) := by
  rcases h with ⟨_, _, h⟩ | ⟨h, _⟩
  · rw [Nat.sub_self, List.take_zero] at h
    by_cases he : I = l.length
    · refine .inr ⟨by omega, rfl, ?_⟩
      rw [h, he, List.drop_length, cut, if_pos rfl, List.append_nil]
    · have hlt : I < l.length := by omega
      refine .inl ⟨hlt, Nat.le_refl _, ?_⟩
      rw [h, List.drop_eq_getElem_cons hlt, cut, if_pos (hb _ (List.getElem?_eq_getElem hlt)), if_pos rfl, List.nil_append, Nat.sub_self, List.take_zero]
  · omega
theorem WR.blank_yes {l : Bytes} {pre : List (Nat × Bytes)} {F I : Nat} (h : WR l pre F I) (hF : F < I) (hI : I ≤ l.length) (hb : ∀ c, l[I]? = some c → blank c = true) : WR l (pre ++ [(F, (l.drop F).take (I - F))]) (I + 1) (I + 1) := by
  have hne : ¬ (l.drop F).take (I - F) = [] := by
    intro e
    have := congrArg List.length e
    rw [List.length_take, List.length_drop, List.length_nil] at this
    omega
  rcases h with ⟨_, _, h⟩ | ⟨h, _⟩
  · by_cases he : I = l.length
    · refine .inr ⟨by omega, rfl, ?_⟩
      rw [h, show l.drop I = [] by rw [he, List.drop_length], cut, if_neg hne]
    · have hlt : I < l.length := by omega
      refine .inl ⟨hlt, Nat.le_refl _, ?_⟩
      rw [h, List.drop_eq_getElem_cons hlt, cut, if_pos (hb _ (List.getElem?_eq_getElem hlt)), if_neg hne, Nat.sub_self, List.take_zero, List.append_assoc]
  · omega
end Xs
open Go.RowKit Go.Shelf

theorem info7_str : (Tryz.prog.info? 9).map (fun i => (i.zero, i.size, i.bytes)) = some (some (.string ByteArray.empty), 1, 16) := by kernel_rfl
theorem info7_int : (Tryz.prog.info? 3).map (fun i => (i.zero, i.size, i.bytes)) = some (some (.int .i64 0), 1, 8) := by kernel_rfl
/-- Two rows of cells of different types lie apart. -/
theorem rows_far {w : World} {B C s t n m : Nat} {e f : TypeId} {u v : Value} {xs ys : List Value} (h : w.ownsRow B e s u n xs) (k : w.ownsRow C f t v m ys) (hne : e ≠ f) : u.ownBlock = none ∨ u.ownBlock ≠ v.ownBlock := by
  rcases h.2 with ⟨rfl, _⟩ | ⟨g, c1, cur1, rfl, _, h1, _⟩
  · exact .inl rfl
  · refine .inr fun e1 => ?_
    rcases k.2 with ⟨rfl, _⟩ | ⟨g', c2, cur2, rfl, _, h2, _⟩
    · simp [Value.ownBlock] at e1
    · simp only [Value.ownBlock, Option.some.injEq] at e1
      subst e1
      rw [h1] at h2
      injection h2 with h2
      injection h2 with _ h2
      exact hne h2

theorem extract_data (s : ByteArray) (F I : Nat) : (s.extract F I).data.toList = (s.data.toList.drop F).take (I - F) := by
  simp [ByteArray.data_extract, Array.toList_extract, List.extract_eq_take_drop]

/-- What holds at each round's head. -/
def WordsR (s : ByteArray) (w : World) (lv pv f v : Value) (wr : World) : Prop :=
  ∃ (pre : List (Wd s.size)) (F I : Nat), f = .int .i64 F ∧ v = .int .i64 I ∧ pre.length ≤ F ∧ F ≤ I ∧ I ≤ s.size + 1 ∧ wr.ownsRow w.heap.size 9 1 lv pre.length (pre.map fun x => .string x.1.2) ∧ wr.ownsRow w.heap.size 3 1 pv pre.length (pre.map fun x => .int .i64 x.1.1) ∧
    Xs.WR s.data.toList (pre.map encW) F I ∧ Below w.heap.size w wr

theorem blank_of (c : UInt8) : Xs.blank c = true ↔ c.toNat = 32 ∨ c.toNat = 9 := by
  unfold Xs.blank
  rw [Bool.or_eq_true, beq_iff_eq, beq_iff_eq]
  constructor
  · rintro (rfl | rfl)
    · exact .inl rfl
    · exact .inr rfl
  · rintro (h | h)
    · exact .inl (UInt8.toNat_inj.1 h)
    · exact .inr (UInt8.toNat_inj.1 h)

set_option maxRecDepth 100000 in
set_option maxHeartbeats 4000000 in
theorem ref7_Words (s : ByteArray) (hs : s.size ≤ 100000) (w : World) : Calls Tryz.prog 43 #[.string s] w fun e w' =>
    ∃ (pre : List (Wd s.size)) (v u : Value), e = .returned (.tuple #[v, u]) ∧ w'.ownsRow w.heap.size 9 1 v pre.length (pre.map fun x => .string x.1.2) ∧ w'.ownsRow w.heap.size 3 1 u pre.length (pre.map fun x => .int .i64 x.1.1) ∧
      pre.map encW = Xs.words s.data.toList ∧ Below w.heap.size w w' := by
  obtain ⟨i0, hi0, hz0, hz1, hz2⟩ := info_parts info7_str
  obtain ⟨j0, hj0, hy0, hy1, hy2⟩ := info_parts info7_int
  have hsl : s.data.toList.length = s.size := by rw [Array.length_toList]; rfl
  go_enter Tryz.func43, Tryz.ntmps43
  go_wp2
  go_loopw [4, 5, 6, 7] (fun lv pv f v wr => WordsR s w lv pv f v wr) (fun _ _ _ v _ => s.size + 1 - (intOf v).toNat)
  case atStart => exact ⟨[], 0, 0, rfl, rfl, Nat.le_refl _, Nat.le_refl _, Nat.zero_le _, World.ownsRow_nil _ _ _ _, World.ownsRow_nil _ _ _ _, Xs.WR.start _, Below.refl _ _⟩
  case round =>
    obtain ⟨pre, F, I, rfl, rfl, hpF, hFI, hI, hL, hP, hW, hB⟩ := hrel
    have HL := Lib.hid hL
    have HP := Lib.hid hP
    have HW := Lib.hid hW
    have HB := Lib.hid hB
    clear hL hP hW hB
    by_cases hle : I ≤ s.size
    · have d1 : decide ((I : Int) ≤ (s.size : Int)) = true := decide_eq_true (by omega)
      have d1' : decide (I ≤ s.size) = true := decide_eq_true hle
      by_cases hlt : I < s.size
      · have d2 : decide ((I : Int) < (s.size : Int)) = true := decide_eq_true (by omega)
        have d2' : decide (I < s.size) = true := decide_eq_true hlt
        have hx : s.data.toList[I]? = some s[I] := by
          rw [Array.getElem?_toList]
          exact Array.getElem?_eq_getElem hlt
        obtain ⟨c, hc⟩ : ∃ c, s[I] = c := ⟨_, rfl⟩
        rw [hc] at hx
        by_cases h32 : c.toNat = 32
        · have e1 : ((c.toNat : Int) != 32) = false := by rw [bne_eq_false_iff_eq]; omega
          have hb : ∀ c, s.data.toList[I]? = some c → Xs.blank c = true := fun c' h => by rw [hx] at h; injection h with h; subst h; exact (blank_of _).2 (.inl h32)
          by_cases hF : F = I
          · subst hF
            have d3 : decide ((F : Int) < (F : Int)) = false := decide_eq_false (by omega)
            have HN := Lib.hid (HW.out.blank_no (by omega) hb)
            clear hx h32 hb
            go_wp2
            go_roundw
            case rel => exact ⟨pre, F + 1, F + 1, by go_num, by go_num, by omega, Nat.le_refl _, by omega, HL.out, HP.out, HN.out, HB.out⟩
            case measure => simp [intOf]; omega
          · have hlF : F < I := by omega
            have d3 : decide ((F : Int) < (I : Int)) = true := decide_eq_true (by omega)
            have d4 : F ≤ s.size := by omega
            obtain ⟨X, hX⟩ : ∃ X : Wd s.size, X.1 = (F, s.extract F I) := ⟨⟨(F, s.extract F I), ⟨by rw [ByteArray.size_extract]; omega, by show F + (s.extract F I).size ≤ s.size; rw [ByteArray.size_extract]; omega⟩⟩, rfl⟩
            have HN := Lib.hid (HW.out.blank_yes hlF (by omega) hb)
            have HX := Lib.hid hX
            clear hx h32 hb
            have hpl : pre.length ≤ 100000 := by omega
            go_wp2_with (first
              | (at_builtin; refine wpList_append_own _ rfl _ _ 58 rfl w.heap.size 9 i0 _ 1 16 Tryz.underlying58 hi0 hz0 hz1 hz2 rfl (by decide) u4 pre.length (pre.map fun x => Value.string x.1.2) rfl (HL.out.alloc _) ⟨wr.heap.size, 0, none⟩ 1 1 [.string (s.extract F I)] rfl rfl (cell_one_new _ _ _) (by intro u hu; simp at hu; subst hu; rfl) (by unfold maxLen; omega) (by omega) (by have := HB.out.size; simp; omega) ?_; intro v1 w1 hown1 hgrow1 _
                 have HB1 := Lib.hid ((HB.out.alloc HB.out.size _).grown hgrow1 (by have := HB.out.size; simp; omega) (fun i hi => (HL.out.lt i hi).1))
                 have HP1 := Lib.hid ((HP.out.alloc (.cells #[.string (s.extract F I)] 9)).kept hgrow1 (rows_far (HP.out.alloc (.cells #[.string (s.extract F I)] 9)) (HL.out.alloc (.cells #[.string (s.extract F I)] 9)) (by decide)))
                 have HL1 := Lib.hid hown1
                 clear hown1 hgrow1)
              | (at_builtin; refine wpList_append_own _ rfl _ _ 87 rfl w.heap.size 3 j0 _ 1 8 Tryz.underlying87 hj0 hy0 hy1 hy2 rfl (by decide) u5 pre.length (pre.map fun x => Value.int .i64 x.1.1) rfl (HP1.out.alloc _) ⟨w1.heap.size, 0, none⟩ 1 1 [.int .i64 F] rfl rfl (cell_one_new _ _ _) (by intro u hu; simp at hu; subst hu; rfl) (by unfold maxLen; omega) (by omega) (by have := HB1.out.size; simp; omega) ?_; intro v2 w2 hown2 hgrow2 _
                 have HB2 := Lib.hid ((HB1.out.alloc HB1.out.size _).grown hgrow2 (by have := HB1.out.size; simp; omega) (fun i hi => (HP1.out.lt i hi).1))
                 have HL2 := Lib.hid ((HL1.out.alloc (.cells #[.int .i64 F] 3)).kept hgrow2 (rows_far (HL1.out.alloc (.cells #[.int .i64 F] 3)) (HP1.out.alloc (.cells #[.int .i64 F] 3)) (by decide)))
                 have HP2 := Lib.hid hown2
                 clear hown2 hgrow2))
            go_roundw
            case rel =>
              refine ⟨pre ++ [X], I + 1, I + 1, by go_num, by go_num, by rw [List.length_append]; simp; omega, Nat.le_refl _, by omega, ?_, ?_, ?_, HB2.out⟩
              · have h := HL2.out
                rw [List.length_append, List.map_append]
                rw [show ([X].map fun x => Value.string x.1.2) = [.string (s.extract F I)] by simp [HX.out]]
                exact h
              · have h := HP2.out
                rw [List.length_append, List.map_append]
                rw [show ([X].map fun x => Value.int .i64 x.1.1) = [.int .i64 F] by simp [HX.out]]
                exact h
              · have h := HN.out
                rw [List.map_append, show [X].map encW = [(F, (s.data.toList.drop F).take (I - F))] by simp [encW, HX.out, extract_data]]
                exact h
            case measure => simp [intOf]; omega
        · by_cases h9 : c.toNat = 9
          · have e1 : ((c.toNat : Int) != 32) = true := by rw [bne_iff_ne]; omega
            have e2 : ((c.toNat : Int) != 9) = false := by rw [bne_eq_false_iff_eq]; omega
            have hb : ∀ c, s.data.toList[I]? = some c → Xs.blank c = true := fun c' h => by rw [hx] at h; injection h with h; subst h; exact (blank_of _).2 (.inr h9)
            by_cases hF : F = I
            · subst hF
              have d3 : decide ((F : Int) < (F : Int)) = false := decide_eq_false (by omega)
              have HN := Lib.hid (HW.out.blank_no (by omega) hb)
              clear hx h32 h9 hb
              go_wp2
              go_roundw
              case rel => exact ⟨pre, F + 1, F + 1, by go_num, by go_num, by omega, Nat.le_refl _, by omega, HL.out, HP.out, HN.out, HB.out⟩
              case measure => simp [intOf]; omega
            · have hlF : F < I := by omega
              have d3 : decide ((F : Int) < (I : Int)) = true := decide_eq_true (by omega)
              have d4 : F ≤ s.size := by omega
              obtain ⟨X, hX⟩ : ∃ X : Wd s.size, X.1 = (F, s.extract F I) := ⟨⟨(F, s.extract F I), ⟨by rw [ByteArray.size_extract]; omega, by show F + (s.extract F I).size ≤ s.size; rw [ByteArray.size_extract]; omega⟩⟩, rfl⟩
              have HN := Lib.hid (HW.out.blank_yes hlF (by omega) hb)
              have HX := Lib.hid hX
              clear hx h32 h9 hb
              have hpl : pre.length ≤ 100000 := by omega
              go_wp2_with (first
                | (at_builtin; refine wpList_append_own _ rfl _ _ 58 rfl w.heap.size 9 i0 _ 1 16 Tryz.underlying58 hi0 hz0 hz1 hz2 rfl (by decide) u4 pre.length (pre.map fun x => Value.string x.1.2) rfl (HL.out.alloc _) ⟨wr.heap.size, 0, none⟩ 1 1 [.string (s.extract F I)] rfl rfl (cell_one_new _ _ _) (by intro u hu; simp at hu; subst hu; rfl) (by unfold maxLen; omega) (by omega) (by have := HB.out.size; simp; omega) ?_; intro v1 w1 hown1 hgrow1 _
                   have HB1 := Lib.hid ((HB.out.alloc HB.out.size _).grown hgrow1 (by have := HB.out.size; simp; omega) (fun i hi => (HL.out.lt i hi).1))
                   have HP1 := Lib.hid ((HP.out.alloc (.cells #[.string (s.extract F I)] 9)).kept hgrow1 (rows_far (HP.out.alloc (.cells #[.string (s.extract F I)] 9)) (HL.out.alloc (.cells #[.string (s.extract F I)] 9)) (by decide)))
                   have HL1 := Lib.hid hown1
                   clear hown1 hgrow1)
                | (at_builtin; refine wpList_append_own _ rfl _ _ 87 rfl w.heap.size 3 j0 _ 1 8 Tryz.underlying87 hj0 hy0 hy1 hy2 rfl (by decide) u5 pre.length (pre.map fun x => Value.int .i64 x.1.1) rfl (HP1.out.alloc _) ⟨w1.heap.size, 0, none⟩ 1 1 [.int .i64 F] rfl rfl (cell_one_new _ _ _) (by intro u hu; simp at hu; subst hu; rfl) (by unfold maxLen; omega) (by omega) (by have := HB1.out.size; simp; omega) ?_; intro v2 w2 hown2 hgrow2 _
                   have HB2 := Lib.hid ((HB1.out.alloc HB1.out.size _).grown hgrow2 (by have := HB1.out.size; simp; omega) (fun i hi => (HP1.out.lt i hi).1))
                   have HL2 := Lib.hid ((HL1.out.alloc (.cells #[.int .i64 F] 3)).kept hgrow2 (rows_far (HL1.out.alloc (.cells #[.int .i64 F] 3)) (HP1.out.alloc (.cells #[.int .i64 F] 3)) (by decide)))
                   have HP2 := Lib.hid hown2
                   clear hown2 hgrow2))
              go_roundw
              case rel =>
                refine ⟨pre ++ [X], I + 1, I + 1, by go_num, by go_num, by rw [List.length_append]; simp; omega, Nat.le_refl _, by omega, ?_, ?_, ?_, HB2.out⟩
                · have h := HL2.out
                  rw [List.length_append, List.map_append]
                  rw [show ([X].map fun x => Value.string x.1.2) = [.string (s.extract F I)] by simp [HX.out]]
                  exact h
                · have h := HP2.out
                  rw [List.length_append, List.map_append]
                  rw [show ([X].map fun x => Value.int .i64 x.1.1) = [.int .i64 F] by simp [HX.out]]
                  exact h
                · have h := HN.out
                  rw [List.map_append, show [X].map encW = [(F, (s.data.toList.drop F).take (I - F))] by simp [encW, HX.out, extract_data]]
                  exact h
              case measure => simp [intOf]; omega
          · have e1 : ((c.toNat : Int) != 32) = true := by rw [bne_iff_ne]; omega
            have e2 : ((c.toNat : Int) != 9) = true := by rw [bne_iff_ne]; omega
            have HN := Lib.hid (HW.out.cont hx (by rw [← Bool.not_eq_true, blank_of]; omega))
            clear h32 h9 hx
            go_wp2
            go_roundw
            case rel => exact ⟨pre, F, I + 1, by go_num, by go_num, hpF, by omega, by omega, HL.out, HP.out, HN.out, HB.out⟩
            case measure => simp [intOf]; omega
      · obtain ⟨n, hn⟩ : ∃ n, s.size = n := ⟨_, rfl⟩
        have hIn : I = s.size := by omega
        have d2 : decide ((I : Int) < (s.size : Int)) = false := decide_eq_false (by omega)
        have d2' : decide (I < s.size) = false := decide_eq_false hlt
        have hb : ∀ c, s.data.toList[I]? = some c → Xs.blank c = true := fun c' h => by have := (List.getElem?_eq_some_iff.1 h).1; omega
        by_cases hF : F = I
        · subst hF
          have d3 : decide ((F : Int) < (F : Int)) = false := decide_eq_false (by omega)
          have HN := Lib.hid (HW.out.blank_no (by omega) hb)
          clear hb hn hIn
          go_wp2
          go_roundw
          case rel => exact ⟨pre, F + 1, F + 1, by go_num, by go_num, by omega, Nat.le_refl _, by omega, HL.out, HP.out, HN.out, HB.out⟩
          case measure => simp [intOf]; omega
        · have hlF : F < I := by omega
          have d3 : decide ((F : Int) < (I : Int)) = true := decide_eq_true (by omega)
          have d4 : F ≤ s.size := by omega
          obtain ⟨X, hX⟩ : ∃ X : Wd s.size, X.1 = (F, s.extract F I) := ⟨⟨(F, s.extract F I), ⟨by rw [ByteArray.size_extract]; omega, by show F + (s.extract F I).size ≤ s.size; rw [ByteArray.size_extract]; omega⟩⟩, rfl⟩
          have HN := Lib.hid (HW.out.blank_yes hlF (by omega) hb)
          have HX := Lib.hid hX
          clear hb hn hIn
          have hpl : pre.length ≤ 100000 := by omega
          go_wp2_with (first
            | (at_builtin; refine wpList_append_own _ rfl _ _ 58 rfl w.heap.size 9 i0 _ 1 16 Tryz.underlying58 hi0 hz0 hz1 hz2 rfl (by decide) u4 pre.length (pre.map fun x => Value.string x.1.2) rfl (HL.out.alloc _) ⟨wr.heap.size, 0, none⟩ 1 1 [.string (s.extract F I)] rfl rfl (cell_one_new _ _ _) (by intro u hu; simp at hu; subst hu; rfl) (by unfold maxLen; omega) (by omega) (by have := HB.out.size; simp; omega) ?_; intro v1 w1 hown1 hgrow1 _
               have HB1 := Lib.hid ((HB.out.alloc HB.out.size _).grown hgrow1 (by have := HB.out.size; simp; omega) (fun i hi => (HL.out.lt i hi).1))
               have HP1 := Lib.hid ((HP.out.alloc (.cells #[.string (s.extract F I)] 9)).kept hgrow1 (rows_far (HP.out.alloc (.cells #[.string (s.extract F I)] 9)) (HL.out.alloc (.cells #[.string (s.extract F I)] 9)) (by decide)))
               have HL1 := Lib.hid hown1
               clear hown1 hgrow1)
            | (at_builtin; refine wpList_append_own _ rfl _ _ 87 rfl w.heap.size 3 j0 _ 1 8 Tryz.underlying87 hj0 hy0 hy1 hy2 rfl (by decide) u5 pre.length (pre.map fun x => Value.int .i64 x.1.1) rfl (HP1.out.alloc _) ⟨w1.heap.size, 0, none⟩ 1 1 [.int .i64 F] rfl rfl (cell_one_new _ _ _) (by intro u hu; simp at hu; subst hu; rfl) (by unfold maxLen; omega) (by omega) (by have := HB1.out.size; simp; omega) ?_; intro v2 w2 hown2 hgrow2 _
               have HB2 := Lib.hid ((HB1.out.alloc HB1.out.size _).grown hgrow2 (by have := HB1.out.size; simp; omega) (fun i hi => (HP1.out.lt i hi).1))
               have HL2 := Lib.hid ((HL1.out.alloc (.cells #[.int .i64 F] 3)).kept hgrow2 (rows_far (HL1.out.alloc (.cells #[.int .i64 F] 3)) (HP1.out.alloc (.cells #[.int .i64 F] 3)) (by decide)))
               have HP2 := Lib.hid hown2
               clear hown2 hgrow2))
          go_roundw
          case rel =>
            refine ⟨pre ++ [X], I + 1, I + 1, by go_num, by go_num, by rw [List.length_append]; simp; omega, Nat.le_refl _, by omega, ?_, ?_, ?_, HB2.out⟩
            · have h := HL2.out
              rw [List.length_append, List.map_append]
              rw [show ([X].map fun x => Value.string x.1.2) = [.string (s.extract F I)] by simp [HX.out]]
              exact h
            · have h := HP2.out
              rw [List.length_append, List.map_append]
              rw [show ([X].map fun x => Value.int .i64 x.1.1) = [.int .i64 F] by simp [HX.out]]
              exact h
            · have h := HN.out
              rw [List.map_append, show [X].map encW = [(F, (s.data.toList.drop F).take (I - F))] by simp [encW, HX.out, extract_data]]
              exact h
          case measure => simp [intOf]; omega
    · have d1 : decide ((I : Int) ≤ (s.size : Int)) = false := decide_eq_false (by omega)
      have d1' : decide (I ≤ s.size) = false := decide_eq_false hle
      have HE := Lib.hid (HW.out.done (by omega))
      go_wp2
      go_ret2
      exact ⟨pre, _, _, rfl, HL.out, HP.out, HE.out.symm, HB.out⟩
end Go.Proofs.YtjnlgaeedcklaaaGreatDoor
