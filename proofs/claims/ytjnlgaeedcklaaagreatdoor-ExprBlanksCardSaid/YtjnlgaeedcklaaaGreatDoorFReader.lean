/-
  The program's text: the reader goes through its states; what is read is what the document says.
-/
import Derived.Test.YtjnlgaeedcklaaaGreatDoorFWrong
import Derived.Test.YtjnlgaeedcklaaaGreatDoorFBack
set_option linter.unusedVariables false
set_option linter.unusedSimpArgs false
namespace Go.Proofs.YtjnlgaeedcklaaaGreatDoor
open Go.RowKit

/-- How far a state is from the end of an item. -/
def phase (th : Value) : Nat :=
  match th with
  | .func (.func f) _ _ => if f = 64 then 3 else if f = 101 then 2 else 1
  | _ => 0

/-- What has been read when a state is to be entered. -/
def RdWhat (kd : Fs.Kind) (s : List UInt8) (k : Nat) (xs : List Fs.Item) (x : List Value) (bad : Bool) (th : Value) : Prop :=
  (th = fnBegin ∧ bad = false ∧ ItRel kd s xs k ∧ xs.length ≤ k) ∨
  (th = fnSlash ∧ bad = false ∧ ∃ a it, ItRel kd s xs a ∧ xs.length ≤ a ∧ a < k ∧ it.step = none ∧ x = cellsP it ∧ Fs.itemAt kd s a = Fs.stepAt s it k) ∨
  (th = fnComma ∧ bad = false ∧ ∃ a it, ItRel kd s xs a ∧ xs.length ≤ a ∧ a < k ∧ x = cellsP it ∧ Fs.itemAt kd s a = .ok it k) ∨
  (th = .nilFunc ∧ bad = true ∧ Fs.itemsAt kd s (s.length + 1) 0 = .bad k) ∨
  (th = .nilFunc ∧ bad = false ∧ Fs.itemsAt kd s (s.length + 1) 0 = .ok xs k)

/-- The reader's block when the state th is to be entered; its last cell holds th0. -/
def RdS (lo hi : Int) (A : Option Addr) (c : Nat) (l : List ByteArray) (week : Bool) (s : ByteArray) (w : World) (g : Nat) (th0 : Value) (k : Nat) (th : Value) (wr : World) : Prop :=
  ∃ (x0 x1 x2 x3 x4 x5 x6 x7 x8 x9 ls : Value) (bad : Bool) (xs : List Fs.Item),
    Blk wr g 124 #[.int .i64 lo, .int .i64 hi, .slice A l.length c, .bool week, .string s, .int .i64 k, x0, x1, x2, x3, x4, x5, x6, x7, x8, x9, ls, .bool bad, th0] ∧ k ≤ s.size ∧
    wr.ownsRow w.heap.size 120 10 ls xs.length (xs.flatMap cellsP) ∧ Below w.heap.size w wr ∧ xs.length ≤ s.size + 1 ∧
    RdWhat (kind lo hi l week) s.data.toList k xs [x0, x1, x2, x3, x4, x5, x6, x7, x8, x9] bad th

theorem RdS.store {lo hi : Int} {A : Option Addr} {c : Nat} {l : List ByteArray} {week : Bool} {s : ByteArray} {w : World} {g : Nat} {th0 : Value} {k : Nat} {th : Value} {wr : World} (h : RdS lo hi A c l week s w g th0 k th wr) (hg : w.heap.size ≤ g) : RdS lo hi A c l week s w g th k th (wr.setCell ⟨g, 18, none⟩ th) := by
  obtain ⟨x0, x1, x2, x3, x4, x5, x6, x7, x8, x9, ls, bad, xs, h1, h2, h3, h4, h5, h6⟩ := h
  refine ⟨x0, x1, x2, x3, x4, x5, x6, x7, x8, x9, ls, bad, xs, ?_, h2, ?_, h4.setCell (by show w.heap.size ≤ g; exact hg) _, h5, h6⟩
  · have := h1.set_ 18 th
    simpa using this
  · exact own_kp h3 (Kg.set_ (Kp.refl _ _) 18 th) (fun i hi => by subst hi; exact own_ne h3 h1 (by decide))

theorem cellsP_one (x : Fs.Item) : ∀ u ∈ cellsP x, u.oneCell' = true := by
  obtain ⟨star, at_, lo, hi, st⟩ := x
  rcases lo with _ | ⟨n, a⟩ <;> rcases hi with _ | ⟨m, b⟩ <;> rcases st with _ | ⟨q, c⟩ <;> intro u hu <;> simp [cellsP, cellP] at hu <;> rcases hu with rfl | rfl | rfl | rfl | rfl | rfl | rfl | rfl | rfl | rfl <;> rfl

/-- What one state comes to. -/
def StepPost (lo hi : Int) (A : Option Addr) (c : Nat) (l : List ByteArray) (week : Bool) (s : ByteArray) (w : World) (g : Nat) (th0 : Value) (m : Nat) (e : Ending) (w' : World) : Prop :=
  ∃ (th' : Value) (k' : Nat), e = .returned th' ∧ RdS lo hi A c l week s w g th0 k' th' w' ∧ 4 * (s.size + 1 - k') + phase th' < m ∧ (th' = fnBegin ∨ th' = fnSlash ∨ th' = fnComma ∨ th' = .nilFunc)

theorem ph_begin : phase fnBegin = 3 := rfl
theorem ph_slash : phase fnSlash = 2 := rfl
theorem ph_comma : phase fnComma = 1 := rfl
theorem ph_nil : phase .nilFunc = 0 := rfl

section
variable {lo hi : Int} {A : Option Addr} {c : Nat} {l : List ByteArray} {week : Bool} {s : ByteArray} {w : World} {g : Nat} {th0 : Value} {k : Nat} {wr : World}

theorem rd_slash (hs : s.size ≤ 100000) (hw : w.heap.size ≤ g) (hT : Tabs w) (h : RdS lo hi A c l week s w g th0 k fnSlash wr) :
    Calls Tryz.prog 101 #[.pointer (some ⟨g, 0, none⟩)] wr (StepPost lo hi A c l week s w g th0 (4 * (s.size + 1 - k) + 2)) := by
  obtain ⟨x0, x1, x2, x3, x4, x5, x6, x7, x8, x9, ls, bad, xs, hB, hk, hown, hbw, hxl, hwh⟩ := h
  have hTr := hT.grow hbw
  have hg12 : 12 ≤ g := Nat.le_trans hT.size hw
  have hne : ∀ i, i = g → ls.ownBlock ≠ some i := fun i hi => by subst hi; exact own_ne hown hB (by decide)
  have bel : ∀ w', Kg g wr w' → Below w.heap.size w w' := fun w' h => Kp.below hbw h hbw.size (fun i hi => by omega)
  rcases hwh with ⟨h, _⟩ | ⟨_, hbad, a, it, hrel, hxa, hak, hst, hx, hit⟩ | ⟨h, _⟩ | ⟨h, _⟩ | ⟨h, _⟩
  · cases h
  · have hal : a ≤ s.data.toList.length := by rw [← Lib.size_eq]; omega
    cases hq : Fs.byteAt s.data.toList k 47 with
    | false =>
      have e1 : Fs.itemAt (kind lo hi l week) s.data.toList a = .ok it k := by rw [hit]; simp [Fs.stepAt, hq]
      refine (st_slash_no g wr lo hi _ week s k x0 x1 x2 x3 x4 x5 x6 x7 x8 x9 ls (.bool bad) th0 hs hk hq hB).mono ?_
      rintro e w' ⟨rfl, hkg, hB'⟩
      exact ⟨fnComma, k, rfl, ⟨x0, x1, x2, x3, x4, x5, x6, x7, x8, x9, ls, bad, xs, hB', hk, own_kp hown hkg hne, bel w' hkg, hxl, .inr (.inr (.inl ⟨rfl, hbad, a, it, hrel, hxa, hak, hx, e1⟩))⟩, by rw [ph_comma]; omega, .inr (.inr (.inl rfl))⟩
    | true =>
      have hkl : k < s.size := by have := Fs.byte_lt hq; rw [← Lib.size_eq] at this; exact this
      by_cases hn : Fs.span Fs.digitB 2 (s.data.toList.drop (k + 1)) = 0
      · have e1 : Fs.itemAt (kind lo hi l week) s.data.toList a = .bad (k + 1) := by
          rw [hit, Fs.stepAt, hq, numAt_split, if_pos hn]; rfl
        refine (st_slash_bad g wr lo hi _ week s k x0 x1 x2 x3 x4 x5 x6 x7 x8 x9 ls (.bool bad) th0 hs hkl hq hn hTr hB hg12).mono ?_
        rintro e w' ⟨rfl, hkg, y7, y8, y9, hB'⟩
        exact ⟨.nilFunc, k + 1, rfl, ⟨x0, x1, x2, x3, x4, x5, x6, y7, y8, y9, ls, true, xs, hB', by omega, own_kp hown hkg hne, bel w' hkg, hxl, .inr (.inr (.inr (.inl ⟨rfl, rfl, hrel.bad hal e1⟩)))⟩, by rw [ph_nil]; omega, .inr (.inr (.inr rfl))⟩
      · obtain ⟨n, hn2⟩ : ∃ n, Fs.span Fs.digitB 2 (s.data.toList.drop (k + 1)) = n := ⟨_, rfl⟩
        have hnl : k + 1 + n ≤ s.size := by
          have := Fs.span_bd (p := Fs.digitB) (m := 2) (l := s.data.toList) (a := k + 1) (by rw [← Lib.size_eq]; omega)
          rw [hn2, ← Lib.size_eq] at this; exact this
        have e1 : Fs.itemAt (kind lo hi l week) s.data.toList a = .ok { it with step := some (Fs.numOf ((s.data.toList.drop (k + 1)).take n), k + 1) } (k + 1 + n) := by
          rw [hit, Fs.stepAt, hq, numAt_split, if_neg hn, hn2]; rfl
        refine (st_slash_yes g wr lo hi _ week s k n x0 x1 x2 x3 x4 x5 x6 x7 x8 x9 ls (.bool bad) th0 hs hkl hq hn2 (by omega) hTr hB hg12).mono ?_
        rintro e w' ⟨rfl, hkg, hB'⟩
        refine ⟨fnComma, k + 1 + n, rfl, ⟨x0, x1, x2, x3, x4, x5, x6, _, _, _, ls, bad, xs, hB', hnl, own_kp hown hkg hne, bel w' hkg, hxl, .inr (.inr (.inl ⟨rfl, hbad, a, _, hrel, hxa, by omega, ?_, e1⟩))⟩, by rw [ph_comma]; omega, .inr (.inr (.inl rfl))⟩
        obtain ⟨star, at_, xlo, xhi, xst⟩ := it
        simp only at hst
        subst hst
        rcases xlo with _ | ⟨n1, a1⟩ <;> rcases xhi with _ | ⟨n2, a2⟩ <;> simp only [cellsP, cellP, List.cons_append, List.nil_append, List.cons.injEq, and_true] at hx ⊢ <;> (obtain ⟨rfl, rfl, rfl, rfl, rfl, rfl, rfl, _⟩ := hx) <;> simp
  · cases h
  · cases h
  · cases h

theorem rd_comma (hs : s.size ≤ 100000) (hw : w.heap.size ≤ g) (h : RdS lo hi A c l week s w g th0 k fnComma wr) :
    Calls Tryz.prog 137 #[.pointer (some ⟨g, 0, none⟩)] wr (StepPost lo hi A c l week s w g th0 (4 * (s.size + 1 - k) + 1)) := by
  obtain ⟨x0, x1, x2, x3, x4, x5, x6, x7, x8, x9, ls, bad, xs, hB, hk, hown, hbw, hxl, hwh⟩ := h
  have bel : ∀ w', Kp (fun i => i = g ∨ ls.ownBlock = some i) wr w' → Below w.heap.size w w' := fun w' h => Kp.below hbw h hbw.size (fun i hi => by
    rcases hi with hi | hi
    · omega
    · exact (hown.lt i hi).1)
  rcases hwh with ⟨h, _⟩ | ⟨h, _⟩ | ⟨_, hbad, a, it, hrel, hxa, hak, hx, hit⟩ | ⟨h, _⟩ | ⟨h, _⟩
  · cases h
  · cases h
  · have hal : a ≤ s.data.toList.length := by rw [← Lib.size_eq]; omega
    have hone : ∀ u ∈ [x0, x1, x2, x3, x4, x5, x6, x7, x8, x9], u.oneCell' = true := by rw [hx]; exact cellsP_one it
    have hxs : (xs ++ [it]).flatMap cellsP = xs.flatMap cellsP ++ [x0, x1, x2, x3, x4, x5, x6, x7, x8, x9] := by rw [hx]; simp
    rcases Nat.lt_or_ge k s.size with hlt | hge
    · have hkn : k ≠ s.data.toList.length := by rw [← Lib.size_eq]; omega
      cases hq : Fs.byteAt s.data.toList k 44 with
      | true =>
        refine (st_comma_next g w.heap.size xs.length wr lo hi _ week s k x0 x1 x2 x3 x4 x5 x6 x7 x8 x9 ls (.bool bad) th0 (xs.flatMap cellsP) hs hk hone hlt hq hown (by omega) hbw.size hB).mono ?_
        rintro e w' ⟨rfl, ls', hB', hown', hkp, _⟩
        exact ⟨fnBegin, k + 1, rfl, ⟨x0, x1, x2, x3, x4, x5, x6, x7, x8, x9, ls', bad, xs ++ [it], hB', hlt, by rw [hxs, List.length_append]; exact hown', bel w' hkp, by simp; omega, .inl ⟨rfl, hbad, hrel.next hak hal hit hkn hq, by simp; omega⟩⟩, by rw [ph_begin]; omega, .inl rfl⟩
      | false =>
        refine (st_comma_bad g w.heap.size xs.length wr lo hi _ week s k x0 x1 x2 x3 x4 x5 x6 x7 x8 x9 ls (.bool bad) th0 (xs.flatMap cellsP) hs hk hone hlt hq hown (by omega) hbw.size hB).mono ?_
        rintro e w' ⟨rfl, ls', hB', hown', hkp, _⟩
        exact ⟨.nilFunc, k, rfl, ⟨x0, x1, x2, x3, x4, x5, x6, x7, x8, x9, ls', true, xs ++ [it], hB', hk, by rw [hxs, List.length_append]; exact hown', bel w' hkp, by simp; omega, .inr (.inr (.inr (.inl ⟨rfl, rfl, hrel.wrong hal hit hkn hq⟩)))⟩, by rw [ph_nil]; omega, .inr (.inr (.inr rfl))⟩
    · obtain rfl : k = s.size := by omega
      refine (st_comma_end g w.heap.size xs.length wr lo hi _ week s s.size x0 x1 x2 x3 x4 x5 x6 x7 x8 x9 ls (.bool bad) th0 (xs.flatMap cellsP) hs hk hone rfl hown (by omega) hbw.size hB).mono ?_
      rintro e w' ⟨rfl, ls', hB', hown', hkp, _⟩
      have hlast := hrel.last hal (by rw [hit, Lib.size_eq])
      exact ⟨.nilFunc, s.size, rfl, ⟨x0, x1, x2, x3, x4, x5, x6, x7, x8, x9, ls', bad, xs ++ [it], hB', hk, by rw [hxs, List.length_append]; exact hown', bel w' hkp, by simp; omega, .inr (.inr (.inr (.inr ⟨rfl, hbad, by rw [hlast, Lib.size_eq]⟩)))⟩, by rw [ph_nil]; omega, .inr (.inr (.inr rfl))⟩
  · cases h
  · cases h

theorem rd_begin (hs : s.size ≤ 100000) (hw : w.heap.size ≤ g) (hT : Tabs w) (hlo : 0 ≤ lo) (hlo2 : lo ≤ 62) (hnl : l.length ≤ 1000) (hA : Names w w.heap.size A l) (h : RdS lo hi A c l week s w g th0 k fnBegin wr) :
    Calls Tryz.prog 64 #[.pointer (some ⟨g, 0, none⟩)] wr (StepPost lo hi A c l week s w g th0 (4 * (s.size + 1 - k) + 3)) := by
  obtain ⟨x0, x1, x2, x3, x4, x5, x6, x7, x8, x9, ls, bad, xs, hB, hk, hown, hbw, hxl, hwh⟩ := h
  have hTr := hT.grow hbw
  have hg12 : 12 ≤ g := Nat.le_trans hT.size hw
  have hne : ∀ i, i = g → ls.ownBlock ≠ some i := fun i hi => by subst hi; exact own_ne hown hB (by decide)
  have bel : ∀ w', Kg g wr w' → Below w.heap.size w w' := fun w' h => Kp.below hbw h hbw.size (fun i hi => by omega)
  have hAr : Names wr g A l := hA.below hbw hw
  rcases hwh with ⟨_, hbad, hrel, hxk⟩ | ⟨h, _⟩ | ⟨h, _⟩ | ⟨h, _⟩ | ⟨h, _⟩
  · have hkl : k ≤ s.data.toList.length := by rw [← Lib.size_eq]; omega
    cases hq : Fs.byteAt s.data.toList k 42 with
    | true =>
      have hklt : k < s.size := by have := Fs.byte_lt hq; rw [← Lib.size_eq] at this; exact this
      refine (st_begin_star g wr lo hi A c l week s k x0 x1 x2 x3 x4 x5 x6 x7 x8 x9 ls (.bool bad) th0 hs hk hlo hlo2 hnl hAr hTr hg12 hq hklt hB).mono ?_
      rintro e w' ⟨rfl, hkg, hB'⟩
      exact ⟨fnSlash, k + 1, rfl, ⟨_, _, _, _, _, _, _, _, _, _, ls, bad, xs, hB', hklt, own_kp hown hkg hne, bel w' hkg, hxl, .inr (.inl ⟨rfl, hbad, k, { Fs.Item.start k with star := true }, hrel, hxk, by omega, rfl, rfl, by simp [Fs.itemAt, hq]⟩)⟩, by rw [ph_slash]; omega, .inr (.inl rfl)⟩
    | false =>
      cases hv : Fs.valAt (kind lo hi l week) s.data.toList k with
      | none =>
        refine (st_begin_bad1 g wr lo hi A c l week s k x0 x1 x2 x3 x4 x5 x6 x7 x8 x9 ls (.bool bad) th0 hs hk hlo hlo2 hnl hAr hTr hg12 hq hv hB).mono ?_
        rintro e w' ⟨rfl, hkg, y0, y1, y2, y3, y4, y5, y6, y7, y8, y9, hB'⟩
        exact ⟨.nilFunc, k, rfl, ⟨_, _, _, _, _, _, _, _, _, _, ls, true, xs, hB', hk, own_kp hown hkg hne, bel w' hkg, hxl, .inr (.inr (.inr (.inl ⟨rfl, rfl, hrel.bad hkl (by simp [Fs.itemAt, hq, hv])⟩)))⟩, by rw [ph_nil]; omega, .inr (.inr (.inr rfl))⟩
      | some p =>
        obtain ⟨v, e0⟩ := p
        obtain ⟨v1, v2⟩ := Fs.valAt_le' hv
        rw [← Lib.size_eq] at v2
        cases hq2 : Fs.byteAt s.data.toList e0 45 with
        | false =>
          refine (st_begin_one g wr lo hi A c l week s k v e0 x0 x1 x2 x3 x4 x5 x6 x7 x8 x9 ls (.bool bad) th0 hs hk hlo hlo2 hnl hAr hTr hg12 v2 hq hv hq2 hB).mono ?_
          rintro e w' ⟨rfl, hkg, hB'⟩
          exact ⟨fnSlash, e0, rfl, ⟨_, _, _, _, _, _, _, _, _, _, ls, bad, xs, hB', v2, own_kp hown hkg hne, bel w' hkg, hxl, .inr (.inl ⟨rfl, hbad, k, { Fs.Item.start k with lo := some (v, k) }, hrel, hxk, v1, rfl, rfl, by simp [Fs.itemAt, hq, hv, hq2]⟩)⟩, by rw [ph_slash]; omega, .inr (.inl rfl)⟩
        | true =>
          have he2 : e0 + 1 ≤ s.size := by have := Fs.byte_lt hq2; rw [← Lib.size_eq] at this; exact this
          cases hv2 : Fs.valAt (kind lo hi l week) s.data.toList (e0 + 1) with
          | none =>
            refine (st_begin_bad2 g wr lo hi A c l week s k v e0 x0 x1 x2 x3 x4 x5 x6 x7 x8 x9 ls (.bool bad) th0 hs hk hlo hlo2 hnl hAr hTr hg12 v2 he2 hq hv hq2 hv2 hB).mono ?_
            rintro e w' ⟨rfl, hkg, y0, y1, y2, y3, y4, y5, y6, y7, y8, y9, hB'⟩
            exact ⟨.nilFunc, e0 + 1, rfl, ⟨_, _, _, _, _, _, _, _, _, _, ls, true, xs, hB', he2, own_kp hown hkg hne, bel w' hkg, hxl, .inr (.inr (.inr (.inl ⟨rfl, rfl, hrel.bad hkl (by simp [Fs.itemAt, hq, hv, hq2, hv2])⟩)))⟩, by rw [ph_nil]; omega, .inr (.inr (.inr rfl))⟩
          | some p2 =>
            obtain ⟨m, e2⟩ := p2
            obtain ⟨v3, v4⟩ := Fs.valAt_le' hv2
            rw [← Lib.size_eq] at v4
            refine (st_begin_two g wr lo hi A c l week s k v e0 m e2 x0 x1 x2 x3 x4 x5 x6 x7 x8 x9 ls (.bool bad) th0 hs hk hlo hlo2 hnl hAr hTr hg12 v2 he2 hq hv hq2 hv2 hB).mono ?_
            rintro e w' ⟨rfl, hkg, hB'⟩
            exact ⟨fnSlash, e2, rfl, ⟨_, _, _, _, _, _, _, _, _, _, ls, bad, xs, hB', v4, own_kp hown hkg hne, bel w' hkg, hxl, .inr (.inl ⟨rfl, hbad, k, { Fs.Item.start k with lo := some (v, k), hi := some (m, e0 + 1) }, hrel, hxk, by omega, rfl, rfl, by simp [Fs.itemAt, hq, hv, hq2, hv2]⟩)⟩, by rw [ph_slash]; omega, .inr (.inl rfl)⟩
  · cases h
  · cases h
  · cases h
  · cases h
end

end Go.Proofs.YtjnlgaeedcklaaaGreatDoor
