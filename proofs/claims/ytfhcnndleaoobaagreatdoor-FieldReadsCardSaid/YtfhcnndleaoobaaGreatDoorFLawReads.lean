/-
  FieldReads: the walk, the row, the card.
-/
import Derived.Test.YtfhcnndleaoobaaGreatDoorFRow
import Derived.Test.YtfhcnndleaoobaaGreatDoorFOpen
import Derived.Test.YtfhcnndleaoobaaGreatDoorFWorks
import Derived.Test.YtfhcnndleaoobaaGreatDoorFPlain2
import Derived.Test.YtfhcnndleaoobaaGreatDoorFNameR
import Derived.ChangeMaps5
set_option linter.unusedVariables false
set_option linter.unusedSimpArgs false
namespace Go.Proofs.YtfhcnndleaoobaaGreatDoor.fieldReads
open Go.ChangeShapes Go.WideShapes Go.ChangeAt Go.RowKit

theorem own_empty (W : World) (B : Nat) (hB : B ≤ W.heap.size) : (W.alloc (.cells #[] 9)).ownsRow B 9 1 (.slice (some ⟨W.heap.size, 0, none⟩) 0 0) 0 [] :=
  ⟨rfl, .inr ⟨W.heap.size, 0, #[], rfl, hB, heap_alloc_new W _, Nat.le_refl _, Nat.zero_le _, rfl, rfl⟩⟩
theorem texts_nil (W : World) (A B : Option Addr) (c d : Nat) : Calls Tryz.prog 21 #[.slice A 0 c, .slice B 0 d] W fun e w' => e = .returned (.bool true) ∧ Below W.heap.size W w' :=
  texts_same W A B c d [] (by simp) (.inl rfl) (.inl rfl)
theorem names_news {W : World} {B : Nat} {ad : Addr} {l : List ByteArray} (h : Names W B (some ad) l) : ∀ j u, (l.map Value.string)[j]? = some u → W.cell? (ad.add j) = some u := by
  intro j u hu
  rcases h with rfl | ⟨b, off, h1, hlt, hc⟩
  · simp at hu
  · cases h1
    rw [List.getElem?_map] at hu
    obtain ⟨s, hs, rfl⟩ := Option.map_eq_some_iff.1 hu
    have hj := (List.getElem?_eq_some_iff.1 hs).1
    have ea : ({ block := b, off := off, spot := none } : Addr).add j = ⟨b, off + j, none⟩ := by
      unfold Addr.add
      split
      · rename_i h; simp [h]
      · rfl
    rw [ea, hc j hj, List.getD_eq_getElem?_getD, hs]; rfl
theorem own_names {W : World} {B : Nat} {v : Value} {l : List ByteArray} (h : W.ownsRow B 9 1 v (0 + l.length) ([] ++ l.map Value.string)) : ∃ A' c', v = .slice A' l.length c' ∧ Names W W.heap.size A' l := by
  rw [Nat.zero_add, List.nil_append] at h
  obtain ⟨h0, ⟨rfl, h1⟩ | ⟨g, cap, cur, rfl, _, hg, _, _, _, ht⟩⟩ := h
  · exact ⟨none, 0, by rw [h1], .inl (List.length_eq_zero_iff.1 h1)⟩
  · refine ⟨some ⟨g, 0, none⟩, cap, rfl, .inr ⟨g, 0, rfl, (Array.getElem?_eq_some_iff.1 hg).1, fun j hj => ?_⟩⟩
    rw [Nat.zero_add]
    unfold World.cell?
    rw [hg]
    simp only [Option.isSome_none, Bool.false_eq_true, if_false]
    have h2 : (cur.toList.take (l.length * 1))[j]? = (l.map Value.string)[j]? := by rw [ht]
    rw [Nat.mul_one, List.getElem?_take_of_lt hj, Array.getElem?_toList, List.getElem?_map] at h2
    rw [h2, List.getElem?_eq_getElem hj, List.getD_eq_getElem?_getD, List.getElem?_eq_getElem hj]; rfl

set_option maxRecDepth 100000 in
set_option maxHeartbeats 4000000 in
theorem walk (lo hi : Int) (A : Option Addr) (l : List ByteArray) (c : Nat) (week : Bool) (s : ByteArray) (ws : s.size ≤ maxLen) (w : World) (hT : Tabs w) (hlo1 : -9223372036854775808 ≤ lo) (hlo2 : lo ≤ 9223372036854775807) (hhi1 : -9223372036854775808 ≤ hi) (hhi2 : hi ≤ 9223372036854775807) (hcc : l.length ≤ c) (hlm : c ≤ maxLen) (hN : Names w w.heap.size A l) (hsz : ∀ s ∈ l, s.size ≤ maxLen) (hAc : A = none → c = 0) :
    Calls Tryz.prog 3 #[.agg #[.int .i64 lo, .int .i64 hi, .slice A l.length c, .bool week], .string s] w fun e w' => e = .returned (.bool true) ∧ Below w.heap.size w w' := by
  have HN := Lib.hid hN
  have HT := Lib.hid hT
  have HSZ := Lib.hid hsz
  cases hsh : shortB l with
  | false =>
    have GS : Hid (∀ W, Names W W.heap.size A l → Calls Tryz.prog 13 #[.agg #[.int .i64 lo, .int .i64 hi, .slice A l.length c, .bool week]] W fun e w' => e = .returned (.bool false) ∧ Below W.heap.size W w') := Lib.hid fun W h => by have := kind_short W lo hi A c l week hcc hlm h hsz; rw [hsh] at this; exact this
    clear hsh hT hN hsz hAc
    go_enter Tryz.func3, Tryz.ntmps3
    go_wp2_with (first
      | (go_at_call 13; (with_reducible refine (GS.out _ (HN.out.alloc _)).mono ?_); rintro e x1 ⟨rfl, hb1⟩
         have B1 := Lib.hid (hb1.mono (B' := w.heap.size + 1) (by simp)); have N1 := Lib.hid ((HN.out.alloc _).below hb1 hb1.size); have T1 := Lib.hid ((HT.out.alloc _).grow hb1)
         have hc1 : ∀ b o, b < w.heap.size + 1 → x1.cell? ⟨b, o, none⟩ = (w.alloc (.cells #[.int .i64 lo, .int .i64 hi, .slice A l.length c, .bool week] 24)).cell? ⟨b, o, none⟩ := fun b o h => B1.out.cell (p := ⟨b, o, none⟩) h
         have s1 : w.heap.size < x1.heap.size := by have := B1.out.size; simp at this; omega
         clear hb1)
      | (go_at_call 14; (with_reducible refine (works_true _ T1.out).mono ?_); rintro e x2 ⟨rfl, hb2⟩
         have B2 := Lib.hid (B1.out.trans (hb2.mono (by have := B1.out.size; simp only [World.size_alloc] at this ⊢; omega))); have N2 := Lib.hid (N1.out.below hb2 hb2.size); have T2 := Lib.hid (T1.out.grow hb2)
         have hc2 : ∀ b o, b < w.heap.size + 1 → x2.cell? ⟨b, o, none⟩ = (w.alloc (.cells #[.int .i64 lo, .int .i64 hi, .slice A l.length c, .bool week] 24)).cell? ⟨b, o, none⟩ := fun b o h => B2.out.cell (p := ⟨b, o, none⟩) h; clear hb2))
    go_ret
    exact ⟨rfl, ((Below.refl _ _).alloc (Nat.le_refl _) _).trans (B2.out.mono (Nat.le_succ _))⟩
  | true =>
    have GS : Hid (∀ W, Names W W.heap.size A l → Calls Tryz.prog 13 #[.agg #[.int .i64 lo, .int .i64 hi, .slice A l.length c, .bool week]] W fun e w' => e = .returned (.bool true) ∧ Below W.heap.size W w') := Lib.hid fun W h => by have := kind_short W lo hi A c l week hcc hlm h hsz; rw [hsh] at this; exact this
    obtain ⟨hl70, hl20⟩ := short_facts hsh
    have hl1000 : ∀ s ∈ l, s.size ≤ 1000 := fun s hs => Nat.le_trans (hl20 s hs) (by decide)

    have hws : s.size ≤ 9223372036854775807 := ws
    by_cases h300 : 300 < s.size
    · clear hsh hT hN hsz hAc hl70 hl20 hl1000
      go_enter Tryz.func3, Tryz.ntmps3
      go_wp2_with (first
        | (go_at_call 13; (with_reducible refine (GS.out _ (HN.out.alloc _)).mono ?_); rintro e x1 ⟨rfl, hb1⟩
           have B1 := Lib.hid (hb1.mono (B' := w.heap.size + 1) (by simp)); have N1 := Lib.hid ((HN.out.alloc _).below hb1 hb1.size); have T1 := Lib.hid ((HT.out.alloc _).grow hb1)
           have hc1 : ∀ b o, b < w.heap.size + 1 → x1.cell? ⟨b, o, none⟩ = (w.alloc (.cells #[.int .i64 lo, .int .i64 hi, .slice A l.length c, .bool week] 24)).cell? ⟨b, o, none⟩ := fun b o h => B1.out.cell (p := ⟨b, o, none⟩) h
           have s1 : w.heap.size < x1.heap.size := by have := B1.out.size; simp at this; omega
           clear hb1)
        | (go_at_call 14; (with_reducible refine (works_true _ T1.out).mono ?_); rintro e x2 ⟨rfl, hb2⟩
           have B2 := Lib.hid (B1.out.trans (hb2.mono (by have := B1.out.size; simp only [World.size_alloc] at this ⊢; omega))); have N2 := Lib.hid (N1.out.below hb2 hb2.size); have T2 := Lib.hid (T1.out.grow hb2)
           have hc2 : ∀ b o, b < w.heap.size + 1 → x2.cell? ⟨b, o, none⟩ = (w.alloc (.cells #[.int .i64 lo, .int .i64 hi, .slice A l.length c, .bool week] 24)).cell? ⟨b, o, none⟩ := fun b o h => B2.out.cell (p := ⟨b, o, none⟩) h; clear hb2))
      go_ret
      exact ⟨rfl, ((Below.refl _ _).alloc (Nat.le_refl _) _).trans (B2.out.mono (Nat.le_succ _))⟩
    · have hs3 : s.size ≤ 100000 := by omega
      have hset := Fs.parse_lt' (kind lo hi l week) s.data.toList
      have g1 : ∀ W, Names W W.heap.size A l → Tabs W → Calls Tryz.prog 15 #[.agg #[.int .i64 lo, .int .i64 hi, .slice A l.length c, .bool week], .string s] W fun e w' => e = .returned (retP (Fs.parse (kind lo hi l week) s.data.toList)) ∧ Below W.heap.size W w' := fun W h hT => field_Parse s W lo hi A c l week hlo1 hlo2 hhi1 hhi2 hs3 (by omega) hcc h hl1000 hT
      have g2 : ∀ W, Names W W.heap.size A l → Calls Tryz.prog 17 #[.agg #[.int .i64 lo, .int .i64 hi, .slice A l.length c, .bool week], .string s] W fun e w' => e = .returned (retP (Fs.parse (kind lo hi l week) s.data.toList)) ∧ Below W.heap.size W w' := fun W h => ref_Parse s W lo hi A c l week hlo1 hlo2 hhi1 hhi2 hs3 (by omega) hcc h hl1000
      have g3 : ∀ W, Names W W.heap.size A l → Tabs W → Calls Tryz.prog 19 #[.agg #[.int .i64 lo, .int .i64 hi, .slice A l.length c, .bool week], .string s] W fun e w' => e = .returned (retNormal (Fs.normalB (kind lo hi l week) s.data.toList)) ∧ Below W.heap.size W w' := fun W h hT => field_Normal s W lo hi A c l week hlo1 hlo2 hhi1 hhi2 hs3 (by omega) hcc h hl1000 hT hset
      have g4 : ∀ W, Names W W.heap.size A l → Calls Tryz.prog 20 #[.agg #[.int .i64 lo, .int .i64 hi, .slice A l.length c, .bool week], .string s] W fun e w' => e = .returned (retNormal (Fs.normalB (kind lo hi l week) s.data.toList)) ∧ Below W.heap.size W w' := fun W h => ref_Normal s W lo hi A c l week hlo1 hlo2 hhi1 hhi2 hs3 (by omega) hcc h hl1000 hset
      clear hset
      generalize Fs.parse (kind lo hi l week) s.data.toList = P at *
      generalize Fs.normalB (kind lo hi l week) s.data.toList = Q at *
      obtain ⟨S, star, a, er⟩ := P
      obtain ⟨t, i, g⟩ := Q
      simp only [retP, retNormal] at g1 g2 g3 g4
      have G1 := Lib.hid g1; have G2 := Lib.hid g2; have G3 := Lib.hid g3; have G4 := Lib.hid g4
      clear g1 g2 g3 g4
      obtain ⟨i0, hi0, hz0, hz1, hz2⟩ := info_parts info_str
      have Hl70 := Lib.hid hl70
      rcases A with _ | ad
      · obtain rfl := hAc rfl
        have hl0 : l = [] := by
          rcases hN with h | ⟨b, off, h, _⟩
          · exact h
          · cases h
        subst hl0
        have GS : Hid (∀ W, Names W W.heap.size none ([] : List ByteArray) → Calls Tryz.prog 13 #[.agg #[.int .i64 lo, .int .i64 hi, .slice none 0 0, .bool week]] W fun e w' => e = .returned (.bool true) ∧ Below W.heap.size W w') := GS
        have G1 : Hid (∀ W, Names W W.heap.size none ([] : List ByteArray) → Tabs W → Calls Tryz.prog 15 #[.agg #[.int .i64 lo, .int .i64 hi, .slice none 0 0, .bool week], .string s] W fun e w' => e = .returned (.tuple #[.int .u64 S, .bool star, .int .i64 a, .int .i64 er]) ∧ Below W.heap.size W w') := G1
        have G2 : Hid (∀ W, Names W W.heap.size none ([] : List ByteArray) → Calls Tryz.prog 17 #[.agg #[.int .i64 lo, .int .i64 hi, .slice none 0 0, .bool week], .string s] W fun e w' => e = .returned (.tuple #[.int .u64 S, .bool star, .int .i64 a, .int .i64 er]) ∧ Below W.heap.size W w') := G2
        have G3 : Hid (∀ W, Names W W.heap.size none ([] : List ByteArray) → Tabs W → Calls Tryz.prog 19 #[.agg #[.int .i64 lo, .int .i64 hi, .slice none 0 0, .bool week], .string s] W fun e w' => e = .returned (.tuple #[.string ⟨t.toArray⟩, .int .i64 i, .int .i64 g]) ∧ Below W.heap.size W w') := G3
        have G4 : Hid (∀ W, Names W W.heap.size none ([] : List ByteArray) → Calls Tryz.prog 20 #[.agg #[.int .i64 lo, .int .i64 hi, .slice none 0 0, .bool week], .string s] W fun e w' => e = .returned (.tuple #[.string ⟨t.toArray⟩, .int .i64 i, .int .i64 g]) ∧ Below W.heap.size W w') := G4
        clear hsh hT hN hsz hAc hl70 hl20 hl1000
        go_enter Tryz.func3, Tryz.ntmps3
        go_wp2_with (first
        | (go_at_call 13; (with_reducible refine (GS.out _ (HN.out.alloc _)).mono ?_); rintro e x1 ⟨rfl, hb1⟩
           have B1 := Lib.hid (hb1.mono (B' := w.heap.size + 1) (by simp)); have N1 := Lib.hid ((HN.out.alloc _).below hb1 hb1.size); have T1 := Lib.hid ((HT.out.alloc _).grow hb1)
           have hc1 : ∀ b o, b < w.heap.size + 1 → x1.cell? ⟨b, o, none⟩ = (w.alloc (.cells #[.int .i64 lo, .int .i64 hi, .slice none 0 0, .bool week] 24)).cell? ⟨b, o, none⟩ := fun b o h => B1.out.cell (p := ⟨b, o, none⟩) h
           have s1 : w.heap.size < x1.heap.size := by have := B1.out.size; simp at this; omega
           have B2 := Lib.hid (B1.out.alloc (by have := B1.out.size; simp at this; omega) (.cells #[] 9)); have N2 := Lib.hid (N1.out.alloc (.cells #[] 9)); have T2 := Lib.hid (T1.out.alloc (.cells #[] 9))
           have M2 : Hid (Names (x1.alloc (.cells #[] 9)) (x1.alloc (.cells #[] 9)).heap.size (some ⟨x1.heap.size, 0, none⟩) ([] : List ByteArray)) := Lib.hid (.inl rfl)
           clear hb1)
        
        | (go_at_call 16; (with_reducible refine (kind_spec _ lo hi none 0 0 week).mono ?_); rintro e x3 ⟨rfl, hb2⟩
           have B3 := Lib.hid (B2.out.trans (hb2.mono (by have := B2.out.size; simp only [World.size_alloc] at this ⊢; omega))); have N3 := Lib.hid (N2.out.below hb2 hb2.size); have T3 := Lib.hid (T2.out.grow hb2)
           have hc3 : ∀ b o, b < w.heap.size + 1 → x3.cell? ⟨b, o, none⟩ = (w.alloc (.cells #[.int .i64 lo, .int .i64 hi, .slice none 0 0, .bool week] 24)).cell? ⟨b, o, none⟩ := fun b o h => B3.out.cell (p := ⟨b, o, none⟩) h; have M3 := Lib.hid (M2.out.below hb2 hb2.size); clear hb2)
        | (go_at_call 15; (with_reducible refine (G1.out _ N3.out T3.out).mono ?_); rintro e x4 ⟨rfl, hb2⟩
           have B4 := Lib.hid (B3.out.trans (hb2.mono (by have := B3.out.size; simp only [World.size_alloc] at this ⊢; omega))); have N4 := Lib.hid (N3.out.below hb2 hb2.size); have T4 := Lib.hid (T3.out.grow hb2)
           have hc4 : ∀ b o, b < w.heap.size + 1 → x4.cell? ⟨b, o, none⟩ = (w.alloc (.cells #[.int .i64 lo, .int .i64 hi, .slice none 0 0, .bool week] 24)).cell? ⟨b, o, none⟩ := fun b o h => B4.out.cell (p := ⟨b, o, none⟩) h; have M4 := Lib.hid (M3.out.below hb2 hb2.size); clear hb2)
        | (go_at_call 18; (with_reducible refine (kind_ref _ lo hi none 0 0 week).mono ?_); rintro e x5 ⟨rfl, hb2⟩
           have B5 := Lib.hid (B4.out.trans (hb2.mono (by have := B4.out.size; simp only [World.size_alloc] at this ⊢; omega))); have N5 := Lib.hid (N4.out.below hb2 hb2.size); have T5 := Lib.hid (T4.out.grow hb2)
           have hc5 : ∀ b o, b < w.heap.size + 1 → x5.cell? ⟨b, o, none⟩ = (w.alloc (.cells #[.int .i64 lo, .int .i64 hi, .slice none 0 0, .bool week] 24)).cell? ⟨b, o, none⟩ := fun b o h => B5.out.cell (p := ⟨b, o, none⟩) h; have M5 := Lib.hid (M4.out.below hb2 hb2.size); clear hb2)
        | (go_at_call 17; (with_reducible refine (G2.out _ N5.out).mono ?_); rintro e x6 ⟨rfl, hb2⟩
           have B6 := Lib.hid (B5.out.trans (hb2.mono (by have := B5.out.size; simp only [World.size_alloc] at this ⊢; omega))); have N6 := Lib.hid (N5.out.below hb2 hb2.size); have T6 := Lib.hid (T5.out.grow hb2)
           have hc6 : ∀ b o, b < w.heap.size + 1 → x6.cell? ⟨b, o, none⟩ = (w.alloc (.cells #[.int .i64 lo, .int .i64 hi, .slice none 0 0, .bool week] 24)).cell? ⟨b, o, none⟩ := fun b o h => B6.out.cell (p := ⟨b, o, none⟩) h; have M6 := Lib.hid (M5.out.below hb2 hb2.size); clear hb2)
        | (go_at_call 16; (with_reducible refine (kind_spec _ lo hi none 0 0 week).mono ?_); rintro e x7 ⟨rfl, hb2⟩
           have B7 := Lib.hid (B6.out.trans (hb2.mono (by have := B6.out.size; simp only [World.size_alloc] at this ⊢; omega))); have N7 := Lib.hid (N6.out.below hb2 hb2.size); have T7 := Lib.hid (T6.out.grow hb2)
           have hc7 : ∀ b o, b < w.heap.size + 1 → x7.cell? ⟨b, o, none⟩ = (w.alloc (.cells #[.int .i64 lo, .int .i64 hi, .slice none 0 0, .bool week] 24)).cell? ⟨b, o, none⟩ := fun b o h => B7.out.cell (p := ⟨b, o, none⟩) h; have M7 := Lib.hid (M6.out.below hb2 hb2.size); clear hb2)
        | (go_at_call 19; (with_reducible refine (G3.out _ N7.out T7.out).mono ?_); rintro e x8 ⟨rfl, hb2⟩
           have B8 := Lib.hid (B7.out.trans (hb2.mono (by have := B7.out.size; simp only [World.size_alloc] at this ⊢; omega))); have N8 := Lib.hid (N7.out.below hb2 hb2.size); have T8 := Lib.hid (T7.out.grow hb2)
           have hc8 : ∀ b o, b < w.heap.size + 1 → x8.cell? ⟨b, o, none⟩ = (w.alloc (.cells #[.int .i64 lo, .int .i64 hi, .slice none 0 0, .bool week] 24)).cell? ⟨b, o, none⟩ := fun b o h => B8.out.cell (p := ⟨b, o, none⟩) h; have M8 := Lib.hid (M7.out.below hb2 hb2.size); clear hb2)
        | (go_at_call 18; (with_reducible refine (kind_ref _ lo hi none 0 0 week).mono ?_); rintro e x9 ⟨rfl, hb2⟩
           have B9 := Lib.hid (B8.out.trans (hb2.mono (by have := B8.out.size; simp only [World.size_alloc] at this ⊢; omega))); have N9 := Lib.hid (N8.out.below hb2 hb2.size); have T9 := Lib.hid (T8.out.grow hb2)
           have hc9 : ∀ b o, b < w.heap.size + 1 → x9.cell? ⟨b, o, none⟩ = (w.alloc (.cells #[.int .i64 lo, .int .i64 hi, .slice none 0 0, .bool week] 24)).cell? ⟨b, o, none⟩ := fun b o h => B9.out.cell (p := ⟨b, o, none⟩) h; have M9 := Lib.hid (M8.out.below hb2 hb2.size); clear hb2)
        | (go_at_call 20; (with_reducible refine (G4.out _ N9.out).mono ?_); rintro e x10 ⟨rfl, hb2⟩
           have B10 := Lib.hid (B9.out.trans (hb2.mono (by have := B9.out.size; simp only [World.size_alloc] at this ⊢; omega))); have N10 := Lib.hid (N9.out.below hb2 hb2.size); have T10 := Lib.hid (T9.out.grow hb2)
           have hc10 : ∀ b o, b < w.heap.size + 1 → x10.cell? ⟨b, o, none⟩ = (w.alloc (.cells #[.int .i64 lo, .int .i64 hi, .slice none 0 0, .bool week] 24)).cell? ⟨b, o, none⟩ := fun b o h => B10.out.cell (p := ⟨b, o, none⟩) h; have M10 := Lib.hid (M9.out.below hb2 hb2.size); clear hb2)
        | (go_at_call 21; (with_reducible refine (texts_nil _ _ _ _ _).mono ?_); rintro e x11 ⟨rfl, hb2⟩
           have B11 := Lib.hid (B10.out.trans (hb2.mono (by have := B10.out.size; simp only [World.size_alloc] at this ⊢; omega))); have N11 := Lib.hid (N10.out.below hb2 hb2.size); have T11 := Lib.hid (T10.out.grow hb2)
           have hc11 : ∀ b o, b < w.heap.size + 1 → x11.cell? ⟨b, o, none⟩ = (w.alloc (.cells #[.int .i64 lo, .int .i64 hi, .slice none 0 0, .bool week] 24)).cell? ⟨b, o, none⟩ := fun b o h => B11.out.cell (p := ⟨b, o, none⟩) h; have M11 := Lib.hid (M10.out.below hb2 hb2.size); clear hb2)
        | (go_at_call 14; (with_reducible refine (works_true _ T11.out).mono ?_); rintro e x12 ⟨rfl, hb2⟩
           have B12 := Lib.hid (B11.out.trans (hb2.mono (by have := B11.out.size; simp only [World.size_alloc] at this ⊢; omega))); have N12 := Lib.hid (N11.out.below hb2 hb2.size); have T12 := Lib.hid (T11.out.grow hb2)
           have hc12 : ∀ b o, b < w.heap.size + 1 → x12.cell? ⟨b, o, none⟩ = (w.alloc (.cells #[.int .i64 lo, .int .i64 hi, .slice none 0 0, .bool week] 24)).cell? ⟨b, o, none⟩ := fun b o h => B12.out.cell (p := ⟨b, o, none⟩) h; clear hb2))
        go_ret
        exact ⟨rfl, ((Below.refl _ _).alloc (Nat.le_refl _) _).trans (B12.out.mono (Nat.le_succ _))⟩
      · clear hsh hT hN hsz hAc hl70 hl20 hl1000
        go_enter Tryz.func3, Tryz.ntmps3
        go_wp2_with (first
        | (go_at_call 13; (with_reducible refine (GS.out _ (HN.out.alloc _)).mono ?_); rintro e x1 ⟨rfl, hb1⟩
           have B1 := Lib.hid (hb1.mono (B' := w.heap.size + 1) (by simp)); have N1 := Lib.hid ((HN.out.alloc _).below hb1 hb1.size); have T1 := Lib.hid ((HT.out.alloc _).grow hb1)
           have hc1 : ∀ b o, b < w.heap.size + 1 → x1.cell? ⟨b, o, none⟩ = (w.alloc (.cells #[.int .i64 lo, .int .i64 hi, .slice (some ad) l.length c, .bool week] 24)).cell? ⟨b, o, none⟩ := fun b o h => B1.out.cell (p := ⟨b, o, none⟩) h
           have s1 : w.heap.size < x1.heap.size := by have := B1.out.size; simp at this; omega
           clear hb1)
        | (at_builtin; refine wpList_append_own _ rfl _ _ 22 rfl (w.heap.size + 1) 9 i0 _ 1 16 Tryz.underlying22 hi0 hz0 hz1 hz2 rfl (by decide) _ 0 [] rfl (own_empty x1 _ (by have := B1.out.size; simp at this; omega)) ad l.length c (l.map Value.string) rfl (by simp) (names_news (N1.out.alloc (.cells #[] 9))) (by intro u hu; obtain ⟨z, _, rfl⟩ := List.mem_map.1 hu; rfl) (by have := Hl70.out; unfold maxLen; omega) (by have := Hl70.out; omega) (by have := B1.out.size; simp at this ⊢; omega) ?_; intro v1 x2 hown1 hgrow1 hnil1
           obtain ⟨A', c', hv1, hM⟩ := own_names hown1; subst hv1; have M2 := Lib.hid hM
           have hB2 := (B1.out.alloc (by have := B1.out.size; simp at this; omega) (.cells #[] 9)).grown hgrow1 (by have := B1.out.size; simp at this ⊢; omega) (by intro k hk; cases hk; have := B1.out.size; simp at this; omega)
           have B2 := Lib.hid hB2; have N2 := Lib.hid (HN.out.alloc (.cells #[.int .i64 lo, .int .i64 hi, .slice (some ad) l.length c, .bool week] 24) |>.below (hB2.mono (by simp)) hB2.size); have T2 := Lib.hid ((HT.out.alloc (.cells #[.int .i64 lo, .int .i64 hi, .slice (some ad) l.length c, .bool week] 24)).below hB2 (by have := HT.out.size; omega))
           have hc2 : ∀ b o, b < w.heap.size + 1 → x2.cell? ⟨b, o, none⟩ = (w.alloc (.cells #[.int .i64 lo, .int .i64 hi, .slice (some ad) l.length c, .bool week] 24)).cell? ⟨b, o, none⟩ := fun b o h => B2.out.cell (p := ⟨b, o, none⟩) h
           clear hown1 hgrow1 hnil1 hM hB2)
        | (go_at_call 16; (with_reducible refine (kind_spec _ lo hi (some ad) l.length c week).mono ?_); rintro e x3 ⟨rfl, hb2⟩
           have B3 := Lib.hid (B2.out.trans (hb2.mono (by have := B2.out.size; simp only [World.size_alloc] at this ⊢; omega))); have N3 := Lib.hid (N2.out.below hb2 hb2.size); have T3 := Lib.hid (T2.out.grow hb2)
           have hc3 : ∀ b o, b < w.heap.size + 1 → x3.cell? ⟨b, o, none⟩ = (w.alloc (.cells #[.int .i64 lo, .int .i64 hi, .slice (some ad) l.length c, .bool week] 24)).cell? ⟨b, o, none⟩ := fun b o h => B3.out.cell (p := ⟨b, o, none⟩) h; have M3 := Lib.hid (M2.out.below hb2 hb2.size); clear hb2)
        | (go_at_call 15; (with_reducible refine (G1.out _ N3.out T3.out).mono ?_); rintro e x4 ⟨rfl, hb2⟩
           have B4 := Lib.hid (B3.out.trans (hb2.mono (by have := B3.out.size; simp only [World.size_alloc] at this ⊢; omega))); have N4 := Lib.hid (N3.out.below hb2 hb2.size); have T4 := Lib.hid (T3.out.grow hb2)
           have hc4 : ∀ b o, b < w.heap.size + 1 → x4.cell? ⟨b, o, none⟩ = (w.alloc (.cells #[.int .i64 lo, .int .i64 hi, .slice (some ad) l.length c, .bool week] 24)).cell? ⟨b, o, none⟩ := fun b o h => B4.out.cell (p := ⟨b, o, none⟩) h; have M4 := Lib.hid (M3.out.below hb2 hb2.size); clear hb2)
        | (go_at_call 18; (with_reducible refine (kind_ref _ lo hi (some ad) l.length c week).mono ?_); rintro e x5 ⟨rfl, hb2⟩
           have B5 := Lib.hid (B4.out.trans (hb2.mono (by have := B4.out.size; simp only [World.size_alloc] at this ⊢; omega))); have N5 := Lib.hid (N4.out.below hb2 hb2.size); have T5 := Lib.hid (T4.out.grow hb2)
           have hc5 : ∀ b o, b < w.heap.size + 1 → x5.cell? ⟨b, o, none⟩ = (w.alloc (.cells #[.int .i64 lo, .int .i64 hi, .slice (some ad) l.length c, .bool week] 24)).cell? ⟨b, o, none⟩ := fun b o h => B5.out.cell (p := ⟨b, o, none⟩) h; have M5 := Lib.hid (M4.out.below hb2 hb2.size); clear hb2)
        | (go_at_call 17; (with_reducible refine (G2.out _ N5.out).mono ?_); rintro e x6 ⟨rfl, hb2⟩
           have B6 := Lib.hid (B5.out.trans (hb2.mono (by have := B5.out.size; simp only [World.size_alloc] at this ⊢; omega))); have N6 := Lib.hid (N5.out.below hb2 hb2.size); have T6 := Lib.hid (T5.out.grow hb2)
           have hc6 : ∀ b o, b < w.heap.size + 1 → x6.cell? ⟨b, o, none⟩ = (w.alloc (.cells #[.int .i64 lo, .int .i64 hi, .slice (some ad) l.length c, .bool week] 24)).cell? ⟨b, o, none⟩ := fun b o h => B6.out.cell (p := ⟨b, o, none⟩) h; have M6 := Lib.hid (M5.out.below hb2 hb2.size); clear hb2)
        | (go_at_call 16; (with_reducible refine (kind_spec _ lo hi (some ad) l.length c week).mono ?_); rintro e x7 ⟨rfl, hb2⟩
           have B7 := Lib.hid (B6.out.trans (hb2.mono (by have := B6.out.size; simp only [World.size_alloc] at this ⊢; omega))); have N7 := Lib.hid (N6.out.below hb2 hb2.size); have T7 := Lib.hid (T6.out.grow hb2)
           have hc7 : ∀ b o, b < w.heap.size + 1 → x7.cell? ⟨b, o, none⟩ = (w.alloc (.cells #[.int .i64 lo, .int .i64 hi, .slice (some ad) l.length c, .bool week] 24)).cell? ⟨b, o, none⟩ := fun b o h => B7.out.cell (p := ⟨b, o, none⟩) h; have M7 := Lib.hid (M6.out.below hb2 hb2.size); clear hb2)
        | (go_at_call 19; (with_reducible refine (G3.out _ N7.out T7.out).mono ?_); rintro e x8 ⟨rfl, hb2⟩
           have B8 := Lib.hid (B7.out.trans (hb2.mono (by have := B7.out.size; simp only [World.size_alloc] at this ⊢; omega))); have N8 := Lib.hid (N7.out.below hb2 hb2.size); have T8 := Lib.hid (T7.out.grow hb2)
           have hc8 : ∀ b o, b < w.heap.size + 1 → x8.cell? ⟨b, o, none⟩ = (w.alloc (.cells #[.int .i64 lo, .int .i64 hi, .slice (some ad) l.length c, .bool week] 24)).cell? ⟨b, o, none⟩ := fun b o h => B8.out.cell (p := ⟨b, o, none⟩) h; have M8 := Lib.hid (M7.out.below hb2 hb2.size); clear hb2)
        | (go_at_call 18; (with_reducible refine (kind_ref _ lo hi (some ad) l.length c week).mono ?_); rintro e x9 ⟨rfl, hb2⟩
           have B9 := Lib.hid (B8.out.trans (hb2.mono (by have := B8.out.size; simp only [World.size_alloc] at this ⊢; omega))); have N9 := Lib.hid (N8.out.below hb2 hb2.size); have T9 := Lib.hid (T8.out.grow hb2)
           have hc9 : ∀ b o, b < w.heap.size + 1 → x9.cell? ⟨b, o, none⟩ = (w.alloc (.cells #[.int .i64 lo, .int .i64 hi, .slice (some ad) l.length c, .bool week] 24)).cell? ⟨b, o, none⟩ := fun b o h => B9.out.cell (p := ⟨b, o, none⟩) h; have M9 := Lib.hid (M8.out.below hb2 hb2.size); clear hb2)
        | (go_at_call 20; (with_reducible refine (G4.out _ N9.out).mono ?_); rintro e x10 ⟨rfl, hb2⟩
           have B10 := Lib.hid (B9.out.trans (hb2.mono (by have := B9.out.size; simp only [World.size_alloc] at this ⊢; omega))); have N10 := Lib.hid (N9.out.below hb2 hb2.size); have T10 := Lib.hid (T9.out.grow hb2)
           have hc10 : ∀ b o, b < w.heap.size + 1 → x10.cell? ⟨b, o, none⟩ = (w.alloc (.cells #[.int .i64 lo, .int .i64 hi, .slice (some ad) l.length c, .bool week] 24)).cell? ⟨b, o, none⟩ := fun b o h => B10.out.cell (p := ⟨b, o, none⟩) h; have M10 := Lib.hid (M9.out.below hb2 hb2.size); clear hb2)
        | (go_at_call 21; (with_reducible refine (texts_same _ _ (some ad) _ c l (by have := Hl70.out; omega) M10.out N10.out).mono ?_); rintro e x11 ⟨rfl, hb2⟩
           have B11 := Lib.hid (B10.out.trans (hb2.mono (by have := B10.out.size; simp only [World.size_alloc] at this ⊢; omega))); have N11 := Lib.hid (N10.out.below hb2 hb2.size); have T11 := Lib.hid (T10.out.grow hb2)
           have hc11 : ∀ b o, b < w.heap.size + 1 → x11.cell? ⟨b, o, none⟩ = (w.alloc (.cells #[.int .i64 lo, .int .i64 hi, .slice (some ad) l.length c, .bool week] 24)).cell? ⟨b, o, none⟩ := fun b o h => B11.out.cell (p := ⟨b, o, none⟩) h; have M11 := Lib.hid (M10.out.below hb2 hb2.size); clear hb2)
        | (go_at_call 14; (with_reducible refine (works_true _ T11.out).mono ?_); rintro e x12 ⟨rfl, hb2⟩
           have B12 := Lib.hid (B11.out.trans (hb2.mono (by have := B11.out.size; simp only [World.size_alloc] at this ⊢; omega))); have N12 := Lib.hid (N11.out.below hb2 hb2.size); have T12 := Lib.hid (T11.out.grow hb2)
           have hc12 : ∀ b o, b < w.heap.size + 1 → x12.cell? ⟨b, o, none⟩ = (w.alloc (.cells #[.int .i64 lo, .int .i64 hi, .slice (some ad) l.length c, .bool week] 24)).cell? ⟨b, o, none⟩ := fun b o h => B12.out.cell (p := ⟨b, o, none⟩) h; clear hb2))
        go_ret
        exact ⟨rfl, ((Below.refl _ _).alloc (Nat.le_refl _) _).trans (B12.out.mono (Nat.le_succ _))⟩

set_option maxRecDepth 100000 in
theorem contract (H : Type) (enc : TypeId × Value → H) (W : World) (base : Nat) (args : Array Value) (ds gs : List (DataW H)) (before : List MemPlace)
    (hval : ∀ (j : Nat) t v, Tryz.f3.params[j]? = some t → args[j]? = some v → Value.okWide Tryz.prog W .any base t v)
    (hW : DataW.Whole enc Tryz.prog Tryz.f3.params.toList Rows.fieldReadsSpec.vars false W args.toList ds gs before) (hL : laidMetH Tryz.prog Rows.fieldReadsRow.laid W) (hS : W.ShapedOpen Tryz.prog) :
    Calls Tryz.prog 3 args W fun e W' => ∃ v, e = .returned v ∧ Rows.fieldReadsSpec.post enc Tryz.prog Tryz.f3 false true false false W args v W' := by
  have hT : Tabs W := FRow.tabs_of hL hS
  have hW' := hW
  obtain ⟨p, q, hA0, hV, rfl, hfz, hnd⟩ := hW
  have hA : DataW.TrodAll enc Tryz.prog W 0 (fun _ => true) true Tryz.f3.params.toList args.toList ds p := hA0
  rw [Tryz.params3] at hA hval
  obtain ⟨v0, vs0, d0, ds0, p0, q0, hargs, rfl, rfl, h0, r0⟩ := trodAll_cons hA
  obtain ⟨v1, vs1, d1, ds1, p1, q1, rfl, rfl, rfl, h1, r1⟩ := trodAll_cons r0
  obtain ⟨rfl, rfl, rfl⟩ := trodAll_nil r1
  obtain rfl : args = #[v0, v1] := by cases args; simp_all
  obtain ⟨rfl, rfl⟩ := trodVars_none hV
  have h0k := h0
  obtain ⟨lo, hi, A, l, c, week, rfl, hlo1, hlo2, hhi1, hhi2, hcc, hlm, hN, hsz, hAc⟩ := FKind.open_kind (hval 0 24 v0 rfl rfl) h0
  obtain ⟨a1, rfl, rfl, rfl, w1⟩ := Go.ChangeMaps.open_string Tryz.underlying9 (hval 1 9 v1 rfl rfl) h1
  clear hA0
  simp only [List.append_nil] at hW'
  refine (walk lo hi A l c week a1 w1 W hT hlo1 hlo2 hhi1 hhi2 hcc hlm hN hsz hAc).mono fun e W' ⟨he, hb⟩ => ?_
  subst he
  exact ⟨_, rfl, _, _, _, [], _, [], hW', trodAll_cons_mk (shut_bool Tryz.underlying4 _) trodAll_mk0, (trodAll_cons_mk (Below.trod (by kernel_rfl) (by kernel_rfl) (of_decide_eq_true (by kernel_rfl)) h0k hb (fun x hx => hW'.lt x (by simpa using hx))) (trodAll_cons_mk (Go.ChangeMaps.shut_string Tryz.underlying9 w1) trodAll_mk0)), rfl, hb.frame _, fun h => by cases h⟩

set_option maxRecDepth 100000 in
theorem lifted (os : Os) (started : os.Started) (H : Type) (enc : TypeId × Value → H) (F : Stop.Interp) :
    ReturnsInHanded {} Tryz.checked os 3 .any ((OpenSpec.ofChange Rows.fieldReadsSpec).preRow enc Tryz.prog Tryz.f3 Rows.fieldReadsRow.domain false Rows.fieldReadsRow.laid) (((OpenSpec.ofChange Rows.fieldReadsSpec).at F).post enc Tryz.prog Tryz.f3 false true false false) := by
  refine returnsInHanded_of_row (C := Tryz.checked) (s := OpenSpec.ofChange Rows.fieldReadsSpec) FRow.own started (by kernel_rfl) Tryz.func3
    (ChangeSpec.witness_shaped (enc := enc) (C := Tryz.checked) (os := os) (X := fun w _ => laidMetH Tryz.prog FRow.laidL w) false (World.laidAll Tryz.prog os FRow.laidL) #[.agg #[.int .i64 0, .int .i64 0, .slice none 0 0, .bool false], .string ByteArray.empty] 8 (World.laidAll_os _ _ _)
      (FRow.wit_shaped os _) (by kernel_rfl) (by kernel_rfl) (by kernel_rfl) (FRow.wit_laid os _)) ?_
  intro W base args ds gs before hval hW _ _ _ hL hS _
  exact contract H enc W base args ds gs before hval hW hL hS

theorem said : Rows.FieldReadsSaid :=
  OpenClaim.holds_of_cond 3 Tryz.f3 rfl rfl rfl rfl rfl rfl rfl ⟨rfl, rfl, rfl, rfl, rfl⟩ rfl rfl rfl rfl rfl (by kernel_rfl) Tryz.func3 (by kernel_rfl)
    (of_decide_eq_true (by kernel_rfl)) (by unfold Func.isWrapper; first | (rw [if_pos (by decide +kernel)]; kernel_rfl) | (rw [if_neg (by decide +kernel)]; exact ⟨rfl, rfl⟩))
    (fun os started H enc _ F => by rw [OpenClaim.pre_eq_preRow]; exact lifted os started H enc F)

theorem plain (f : FuncId) (fn : Func) (hf : Tryz.pinned.checked.prog.funcNamed "wakeman/wakemanlaw06.FieldReads" = some f) (hfn : Tryz.pinned.checked.prog.funcs[f]? = some fn) :
    true = Tryz.pinned.checked.prog.looks [] ∧ ∀ (j : Nat) t, fn.params[j]? = some t → Tryz.pinned.checked.prog.wantsStandIn t = false := by
  obtain rfl : f = 3 := Option.some.inj ((show Tryz.prog.funcNamed "wakeman/wakemanlaw06.FieldReads" = some 3 by kernel_rfl).symm.trans hf) |>.symm
  obtain rfl : fn = Tryz.f3 := (Option.some.inj (Tryz.func3.symm.trans hfn)).symm
  refine ⟨by kernel_rfl, fun j t ht => ?_⟩
  rw [Tryz.params3] at ht
  have hm : t ∈ [24, 9] := by simpa using Array.mem_of_getElem? ht
  have hall : ([24, 9].all fun u => !Tryz.prog.wantsStandIn u) = true := by kernel_rfl
  exact (show Tryz.prog.wantsStandIn t = false by simpa using List.all_eq_true.1 hall t hm)

theorem card : Rows.FieldReadsCardSaid :=
  Claim7.holds_tied_plain_at .later [] _ _ _ _ said (fun _ h => by cases h) (by kernel_rfl) (fun _ h => by cases h) fieldReads_row_tie rfl ⟨rfl, rfl⟩ (by kernel_rfl) rfl plain (by kernel_rfl)
#print axioms card
end Go.Proofs.YtfhcnndleaoobaaGreatDoor.fieldReads
