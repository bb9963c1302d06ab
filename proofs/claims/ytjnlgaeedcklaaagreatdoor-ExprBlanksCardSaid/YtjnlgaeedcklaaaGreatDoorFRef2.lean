/-
  The document's text: number, name, value.
  The document's text: value, one item, all items.
-/
import Derived.Test.YtjnlgaeedcklaaaGreatDoorFCheckR
import Derived.Test.YtjnlgaeedcklaaaGreatDoorFBack
import Derived.Test.YtjnlgaeedcklaaaGreatDoorFBase
set_option linter.unusedVariables false
set_option linter.unusedSimpArgs false
namespace Go.Proofs.YtjnlgaeedcklaaaGreatDoor
open Go.RowKit

/-- What number and value return. -/
def ret3 (at_ : Nat) : Option (Nat × Nat) → Value
  | some (n, e) => .tuple #[.int .i64 n, .int .i64 e, .bool true]
  | none => .tuple #[.int .i64 0, .int .i64 at_, .bool false]

/-- The three of them, one by one. -/
def r3n : Option (Nat × Nat) → Int
  | some (n, _) => n
  | none => 0
def r3e (at_ : Nat) : Option (Nat × Nat) → Int
  | some (_, e) => e
  | none => at_
def r3b : Option (Nat × Nat) → Bool
  | some _ => true
  | none => false
theorem ret3_eq (k : Nat) (r : Option (Nat × Nat)) : ret3 k r = .tuple #[.int .i64 (r3n r), .int .i64 (r3e k r), .bool (r3b r)] := by
  rcases r with _ | ⟨n, e⟩ <;> rfl

theorem ret3_some {k n e : Nat} {a b : Int} (h1 : a = n) (h2 : b = e) : Ending.returned (.tuple #[.int .i64 a, .int .i64 b, .bool true]) = .returned (ret3 k (some (n, e))) := by
  subst h1; subst h2; rfl

theorem ref_number (s : ByteArray) (k : Nat) (w : World) (hs : s.size ≤ 100000) (hk : k ≤ 100001) :
    Calls Tryz.prog 145 #[.string s, .int .i64 k] w fun e w' => e = .returned (ret3 k (Fs.numAt s.data.toList k)) ∧ w = w' := by
  have hsz := Lib.size_eq s
  by_cases h0 : k < s.size
  · have hg := getElem_data s k h0
    cases hc : Fs.digitB s[k] with
    | false =>
      have Hr := Lib.hid (Fs.numAt_no _ _ _ hg hc)
      clear hg hsz
      go_enter Tryz.func145, Tryz.ntmps145
      go_wp2_with (go_at_call 159; refine (ref_digit _ _).mono ?_; rintro e w1 ⟨rfl, rfl⟩)
      go_ret3
      exact ⟨by rw [Hr.out]; rfl, rfl⟩
    | true =>
      obtain ⟨b1, b2⟩ := Fs.digit_bd hc
      by_cases h1 : k + 1 < s.size
      · have hg1 := getElem_data s (k + 1) h1
        cases hd : Fs.digitB s[k + 1] with
        | false =>
          have Hr := Lib.hid (Fs.numAt_one _ _ _ _ hg hc hg1 hd)
          clear hg hg1 hsz
          go_enter Tryz.func145, Tryz.ntmps145
          go_wp2_with (go_at_call 159; refine (ref_digit _ _).mono ?_; rintro e w1 ⟨rfl, rfl⟩)
          go_ret3
          exact ⟨by rw [Hr.out]; exact ret3_some (by omega) (by omega), rfl⟩
        | true =>
          obtain ⟨b3, b4⟩ := Fs.digit_bd hd
          have Hr := Lib.hid (Fs.numAt_two _ _ _ _ hg hc hg1 hd)
          clear hg hg1 hsz
          go_enter Tryz.func145, Tryz.ntmps145
          go_wp2_with (go_at_call 159; refine (ref_digit _ _).mono ?_; rintro e w1 ⟨rfl, rfl⟩)
          go_ret3
          exact ⟨by rw [Hr.out]; exact ret3_some (by omega) (by omega), rfl⟩
      · have Hr := Lib.hid (Fs.numAt_one_end _ _ _ hg hc (by omega))
        clear hg hsz
        go_enter Tryz.func145, Tryz.ntmps145
        go_wp2_with (go_at_call 159; refine (ref_digit _ _).mono ?_; rintro e w1 ⟨rfl, rfl⟩)
        go_ret3
        exact ⟨by rw [Hr.out]; exact ret3_some (by omega) (by omega), rfl⟩
  · have Hr := Lib.hid (Fs.numAt_end s.data.toList k (by omega))
    clear hsz
    go_enter Tryz.func145, Tryz.ntmps145
    go_wp2_with fail
    go_ret3
    exact ⟨by rw [Hr.out]; rfl, rfl⟩

/-! ### Names -/
theorem span_le (p : UInt8 → Bool) (m : Nat) (l : List UInt8) : Fs.span p m l ≤ l.length := by
  unfold Fs.span
  exact Nat.le_trans (List.takeWhile_sublist p).length_le (List.length_take_le' _ _)

theorem takeWhile_all (p : UInt8 → Bool) (l : List UInt8) (h : l.all p = true) : l.takeWhile p = l := by
  induction l with
  | nil => rfl
  | cons a l ih =>
    simp only [List.all_cons, Bool.and_eq_true] at h
    rw [List.takeWhile_cons_of_pos h.1, ih h.2]

/-- The loop of a span: after n letters, whether there is a further one decides. -/
theorem span_more (p : UInt8 → Bool) (l : List UInt8) (n : Nat) (c : UInt8) (h : l[n]? = some c) (ha : (l.take n).all p = true) (hc : p c = false) (m : Nat) (hm : n ≤ m) : Fs.span p m l = n := by
  induction l generalizing n m with
  | nil => simp at h
  | cons a l ih =>
    cases n with
    | zero => simp at h; subst h; exact Fs.span_no _ _ _ _ hc
    | succ n =>
      cases m with
      | zero => omega
      | succ m =>
        simp at h ha
        rw [Fs.span_yes _ _ _ _ ha.1, ih n h (by simpa using ha.2) m (by omega)]
theorem span_all (p : UInt8 → Bool) (l : List UInt8) (ha : l.all p = true) (m : Nat) (hm : l.length ≤ m) : Fs.span p m l = l.length := by
  unfold Fs.span
  rw [List.take_of_length_le hm, takeWhile_all p l ha]
theorem span_most (p : UInt8 → Bool) (l : List UInt8) (n : Nat) (ha : (l.take n).all p = true) (hn : n ≤ l.length) : Fs.span p n l = n := by
  unfold Fs.span
  rw [takeWhile_all p _ ha, List.length_take]
  omega

/-- The word that the loop has built: the letters from a place on, in upper case. -/
def wordOf (s : ByteArray) (k n : Nat) : List UInt8 := ((s.data.toList.drop k).take n).map Fs.up

theorem wordOf_len (s : ByteArray) (k n : Nat) : (wordOf s k n).length ≤ s.size := by
  unfold wordOf
  rw [List.length_map, List.length_take, List.length_drop, ← Lib.size_eq]
  omega

theorem wordOf_succ (s : ByteArray) (k n : Nat) (h : k + n < s.size) : wordOf s k (n + 1) = wordOf s k n ++ [Fs.up s[k + n]] := by
  unfold wordOf
  have hg := getElem_data s (k + n) h
  have h1 : n < (s.data.toList.drop k).length := by rw [List.length_drop, ← Lib.size_eq]; omega
  rw [List.take_succ_eq_append_getElem h1, List.map_append]
  congr 1
  have e : (s.data.toList.drop k)[n] = s[k + n] := by
    rw [List.getElem_drop]
    have := (List.getElem?_eq_some_iff.1 hg).2
    exact this
  simp [e]

theorem up_ge (c : UInt8) (h : Fs.letterB c = true) (h97 : 97 ≤ c.toNat) : UInt8.ofNat ((c.toNat - 97 + 65) % 256) = Fs.up c := by
  simp only [Fs.letterB, Bool.or_eq_true, Bool.and_eq_true, decide_eq_true_eq] at h
  have h2 : c.toNat ≤ 122 := by omega
  have e : Fs.up c = c - 32 := by simp [Fs.up, h97, h2]
  rw [e]
  apply UInt8.toNat_inj.1
  rw [UInt8.toNat_sub_of_le _ _ (by rw [UInt8.le_iff_toNat_le]; simp; omega), UInt8.toNat_ofNat']
  simp
  omega
theorem up_lt (c : UInt8) (h97 : c.toNat < 97) : Fs.up c = c := by
  have : ¬ 97 ≤ c.toNat := by omega
  simp [Fs.up, this]

theorem word_str (s : ByteArray) (k n : Nat) (h : k + n < s.size) (c : UInt8) (hc : c = Fs.up s[k + n]) (wd : List UInt8) (hw : wordOf s k n = wd) :
    Value.string ((⟨wd.toArray⟩ : ByteArray) ++ ⟨#[c]⟩) = .string ⟨(wordOf s k (n + 1)).toArray⟩ := by
  rw [wordOf_succ s k n h, hw, hc]
  congr 1

theorem all_succ (s : ByteArray) (k n : Nat) (p : UInt8 → Bool) (h : k + n < s.size) (ha : ((s.data.toList.drop k).take n).all p = true) (hp : p s[k + n] = true) : ((s.data.toList.drop k).take (n + 1)).all p = true := by
  have h1 : n < (s.data.toList.drop k).length := by rw [List.length_drop, ← Lib.size_eq]; omega
  rw [List.take_succ_eq_append_getElem h1, List.all_append, ha]
  have e : (s.data.toList.drop k)[n] = s[k + n] := by
    rw [List.getElem_drop]
    exact (List.getElem?_eq_some_iff.1 (getElem_data s (k + n) h)).2
  simp [e, hp]

/-- Where the letters end. -/
theorem span_stop (s : ByteArray) (k n m : Nat) (p : UInt8 → Bool) (h : k + n < s.size) (ha : ((s.data.toList.drop k).take n).all p = true) (hp : p s[k + n] = false) (hm : n ≤ m) : Fs.span p m (s.data.toList.drop k) = n :=
  span_more p _ n s[k + n] (by rw [List.getElem?_drop]; exact getElem_data s (k + n) h) ha hp m hm
theorem span_end (s : ByteArray) (k n m : Nat) (p : UInt8 → Bool) (h : k + n = s.size) (ha : ((s.data.toList.drop k).take n).all p = true) (hm : n ≤ m) : Fs.span p m (s.data.toList.drop k) = n := by
  have hl : (s.data.toList.drop k).length = n := by rw [List.length_drop, ← Lib.size_eq]; omega
  rw [List.take_of_length_le (by omega)] at ha
  rw [span_all p _ ha m (by omega), hl]

theorem idx_some (l : List ByteArray) (j : Nat) (x : ByteArray) (hj : j < l.length) (hn : noneOf l j x) (h : (l.getD j ByteArray.empty).data.toList = x.data.toList) : Fs.idxOf (l.map (·.data.toList)) x.data.toList = some j := by
  unfold Fs.idxOf
  rw [List.findIdx?_eq_some_iff_getElem]
  refine ⟨by simpa using hj, ?_, fun i hi => ?_⟩
  · rw [List.getD_eq_getElem?_getD, List.getElem?_eq_getElem hj] at h
    simpa using h
  · have := hn i hi
    rw [List.getD_eq_getElem?_getD, List.getElem?_eq_getElem (by omega)] at this
    simpa using this
theorem idx_none (l : List ByteArray) (x : ByteArray) (hn : noneOf l l.length x) : Fs.idxOf (l.map (·.data.toList)) x.data.toList = none := by
  unfold Fs.idxOf
  rw [List.findIdx?_eq_none_iff]
  intro y hy
  obtain ⟨z, hz, rfl⟩ := List.mem_map.1 hy
  obtain ⟨i, hi, rfl⟩ := List.getElem_of_mem hz
  have := hn i hi
  rw [List.getD_eq_getElem?_getD, List.getElem?_eq_getElem hi] at this
  simpa using this

set_option maxRecDepth 100000 in
set_option maxHeartbeats 2000000 in
theorem ref_name (s : ByteArray) (k : Nat) (w : World) (lo hi : Int) (A : Option Addr) (c : Nat) (l : List ByteArray) (week : Bool) (hs : s.size ≤ 100000) (hk : k ≤ s.size) (hlo : 0 ≤ lo) (hhi : lo ≤ 62) 
    (hn : l.length ≤ 1000) (hcc : l.length ≤ c) (hA : Names w w.heap.size A l) :
    Calls Tryz.prog 158 #[.agg #[.int .i64 lo, .int .i64 hi, .slice A l.length c, .bool week], .string s, .int .i64 k] w fun e w' =>
      e = .returned (ret3 k ((Fs.idxOf (l.map (·.data.toList)) (wordOf s k (Fs.span Fs.letterB s.data.toList.length (s.data.toList.drop k)))).map fun i => (lo.toNat + i, k + Fs.span Fs.letterB s.data.toList.length (s.data.toList.drop k)))) ∧ Below w.heap.size w w' := by
  have hsz := Lib.size_eq s
  have Hz := Lib.hid hsz; clear hsz
  have HA := Lib.hid hA; clear hA
  obtain ⟨lon, rfl⟩ := Int.eq_ofNat_of_zero_le hlo
  generalize hR : ret3 k ((Fs.idxOf (l.map (·.data.toList)) (wordOf s k (Fs.span Fs.letterB s.data.toList.length (s.data.toList.drop k)))).map fun i => ((lon : Int).toNat + i, k + Fs.span Fs.letterB s.data.toList.length (s.data.toList.drop k))) = R
  have HR := Lib.hid hR; clear hR
  go_enter Tryz.func158, Tryz.ntmps158
  go_wp2
  go_loopw [9, 10, 11] (fun e wd _ wr => ∃ n : Nat, k + n ≤ s.size ∧ e = .int .i64 (k + n : Nat) ∧ wd = .string ⟨(wordOf s k n).toArray⟩ ∧ ((s.data.toList.drop k).take n).all Fs.letterB = true ∧ Below w.heap.size w wr ∧ wr.cell? ⟨w.heap.size, 2, none⟩ = some (.slice A l.length c) ∧ wr.cell? ⟨w.heap.size, 0, none⟩ = some (.int .i64 lon) ∧ w.heap.size < wr.heap.size) (fun e _ _ _ => s.size - (intOf e).toNat)
  case atStart => exact ⟨0, by omega, by simp, rfl, rfl, (Below.refl _ _).alloc (Nat.le_refl _) _, by go_simp, by go_simp, by simp⟩
  case round =>
    obtain ⟨n, hn2, rfl, rfl, hall, hbw, hc2, hc0, hsz1⟩ := hrel
    have Hall := Lib.hid hall; clear hall
    by_cases hlt : k + n < s.size
    case' pos =>
      cases hlet : Fs.letterB s[k + n]
      case' true =>
        have hwl := wordOf_len s k n
        generalize hwd : wordOf s k n = wd at hwl
        have Hwd := Lib.hid hwd; clear hwd
        have Hlet := Lib.hid hlet
        have hcv := conv_one
        by_cases h97 : 97 ≤ s[k + n].toNat
        · have Hup := Lib.hid (up_ge s[k + n] hlet h97)
          go_wp2_with (go_at_call 157; refine (ref_letter _ _).mono ?_; rintro e w1 ⟨rfl, rfl⟩)
          go_roundw
          case rel => exact ⟨n + 1, by omega, by go_num, word_str s k n hlt _ Hup.out wd Hwd.out, all_succ s k n _ hlt Hall.out Hlet.out, hbw.alloc hbw.size _, by go_simp, by go_simp, by simp; omega⟩
          case measure => simp [intOf]; omega
        · have Hup := Lib.hid (up_lt s[k + n] (by omega))
          go_wp2_with (go_at_call 157; refine (ref_letter _ _).mono ?_; rintro e w1 ⟨rfl, rfl⟩)
          go_roundw
          case rel => exact ⟨n + 1, by omega, by go_num, word_str s k n hlt _ Hup.out.symm wd Hwd.out, all_succ s k n _ hlt Hall.out Hlet.out, hbw.alloc hbw.size _, by go_simp, by go_simp, by simp; omega⟩
          case measure => simp [intOf]; omega
      case' false =>
        have Hsp := Lib.hid (span_stop s k n s.data.toList.length Fs.letterB hlt Hall.out hlet (by rw [← Hz.out]; omega))
        go_wp2_with (go_at_call 157; refine (ref_letter _ _).mono ?_; rintro e w1 ⟨rfl, rfl⟩)
    case' neg =>
      have Hsp := Lib.hid (span_end s k n s.data.toList.length Fs.letterB (by omega) Hall.out (by rw [← Hz.out]; omega))
      go_wp2
    all_goals
      generalize hwd : wordOf s k n = wd
      have Hwd := Lib.hid hwd; clear hwd
      have hR2 := HR.out
      rw [Hsp.out, Hwd.out] at hR2
      have HR2 := Lib.hid hR2; clear hR2
      obtain ⟨wo, rfl⟩ : ∃ wo : World, wo = wr := ⟨_, rfl⟩
      go_loop [12] (fun i => ∃ j : Nat, j ≤ l.length ∧ i = .int .i64 j ∧ noneOf l j ⟨wd.toArray⟩) (fun i => l.length - (intOf i).toNat)
      case atStart => exact ⟨0, Nat.zero_le _, rfl, fun j hj => by omega⟩
      case round =>
        obtain ⟨j, hj, rfl, hno⟩ := hrel
        have Hno := Lib.hid hno; clear hno
        by_cases hjl : j < l.length
        · rcases HA.out with h0 | ⟨b, off, rfl, hb, hcs⟩
          · exfalso; rw [h0] at hjl; simp at hjl
          · have hcj : wo.cell? ⟨b, off + j, none⟩ = some (.string (l.getD j ByteArray.empty)) := by rw [hbw.cell (p := ⟨b, off + j, none⟩) hb]; exact hcs j hjl
            have Hcs := Lib.hid hcs; clear hcs
            generalize hx : l.getD j ByteArray.empty = x at hcj
            have Hx := Lib.hid hx; clear hx
            go_wp2
            · have heq : x.data.toList = wd := by
                have h := ‹(x.toList == wd) = true›
                rw [beq_iff_eq, Lib.toList_data] at h; exact h
              go_ret3
              have hi := idx_some l j ⟨wd.toArray⟩ hjl Hno.out (by rw [Hx.out, heq])
              have hR3 := HR2.out
              have e1 : (⟨wd.toArray⟩ : ByteArray).data.toList = wd := by simp
              rw [e1] at hi
              rw [hi] at hR3
              refine ⟨?_, hbw⟩
              rw [← hR3]
              exact ret3_some (by simp) (by simp)
            · have hne : x.data.toList ≠ wd := by
                have h := ‹(x.toList == wd) = false›
                rw [beq_eq_false_iff_ne, Lib.toList_data] at h; exact h
              go_round
              case rel =>
                refine ⟨j + 1, by omega, by go_num, fun i hi => ?_⟩
                rcases Nat.lt_or_ge i j with h | h
                · exact Hno.out i h
                · obtain rfl : i = j := by omega
                  rw [Hx.out]
                  exact fun e => hne (by simpa using e)
              case measure => simp [intOf]; omega
        · obtain rfl : j = l.length := by omega
          go_wp2
          go_ret3
          have hi := idx_none l ⟨wd.toArray⟩ Hno.out
          have hR3 := HR2.out
          have e1 : (⟨wd.toArray⟩ : ByteArray).data.toList = wd := by simp
          rw [e1] at hi
          rw [hi] at hR3
          refine ⟨?_, hbw⟩
          rw [← hR3]; rfl

end Go.Proofs.YtjnlgaeedcklaaaGreatDoor

namespace Go.Proofs.YtjnlgaeedcklaaaGreatDoor
open Go.RowKit

theorem Names.below {w w' : World} {B : Nat} {A : Option Addr} {l : List ByteArray} (h : Names w B A l) (hb : Below B w w') {B' : Nat} (hB : B ≤ B') : Names w' B' A l := by
  rcases h with h | ⟨b, off, rfl, hlt, hc⟩
  · exact .inl h
  · exact .inr ⟨b, off, rfl, by omega, fun j hj => (hb.cell (p := ⟨b, off + j, none⟩) hlt).trans (hc j hj)⟩
theorem Names.alloc {w : World} {A : Option Addr} {l : List ByteArray} (h : Names w w.heap.size A l) (o : Obj) : Names (w.alloc o) (w.alloc o).heap.size A l :=
  h.below ((Below.refl _ _).alloc (Nat.le_refl _) _) (by simp)

theorem valAt_num (kd : Fs.Kind) (s : List UInt8) (k : Nat) (h : Fs.span Fs.letterB s.length (s.drop k) = 0) : Fs.valAt kd s k = Fs.numAt s k := by
  simp [Fs.valAt, h]
theorem span_letter (s : ByteArray) (k : Nat) (h : k < s.size) (hl : Fs.letterB s[k] = true) : Fs.span Fs.letterB s.data.toList.length (s.data.toList.drop k) ≠ 0 := by
  rw [Fs.drop_at _ _ _ (getElem_data s k h)]
  have : 0 < s.data.toList.length := by rw [← Lib.size_eq]; omega
  obtain ⟨m, hm⟩ : ∃ m, s.data.toList.length = m + 1 := ⟨s.data.toList.length - 1, by omega⟩
  rw [hm, Fs.span_yes _ _ _ _ hl]
  omega
theorem span_noletter (s : ByteArray) (k : Nat) (h : k < s.size) (hl : Fs.letterB s[k] = false) : Fs.span Fs.letterB s.data.toList.length (s.data.toList.drop k) = 0 := by
  rw [Fs.drop_at _ _ _ (getElem_data s k h), Fs.span_no _ _ _ _ hl]
theorem span_past (s : ByteArray) (k : Nat) (h : s.size ≤ k) : Fs.span Fs.letterB s.data.toList.length (s.data.toList.drop k) = 0 := by
  rw [Fs.drop_end _ _ (by rw [← Lib.size_eq]; exact h), Fs.span_nil]


set_option maxHeartbeats 1000000 in
theorem ref_value (s : ByteArray) (k : Nat) (w : World) (lo hi : Int) (A : Option Addr) (c : Nat) (l : List ByteArray) (week : Bool) (hs : s.size ≤ 100000) (hk : k ≤ 100001) (hlo : 0 ≤ lo) (hhi : lo ≤ 62)
    (hn : l.length ≤ 1000) (hcc : l.length ≤ c) (hA : Names w w.heap.size A l) :
    Calls Tryz.prog 144 #[.agg #[.int .i64 lo, .int .i64 hi, .slice A l.length c, .bool week], .string s, .int .i64 k] w fun e w' =>
      e = .returned (ret3 k (Fs.valAt (kind lo hi l week) s.data.toList k)) ∧ Below w.heap.size w w' := by
  have HA := Lib.hid hA; clear hA
  have hnum : ∀ W : World, Calls Tryz.prog 145 #[.string s, .int .i64 k] W fun e w' => e = .returned (.tuple #[.int .i64 (r3n (Fs.numAt s.data.toList k)), .int .i64 (r3e k (Fs.numAt s.data.toList k)), .bool (r3b (Fs.numAt s.data.toList k))]) ∧ W = w' :=
    fun W => (ref_number s k W hs hk).mono fun _ _ h => ⟨by rw [h.1, ret3_eq], h.2⟩
  have Hnum := Lib.hid hnum; clear hnum
  by_cases h0 : k < s.size
  · cases hlet : Fs.letterB s[k] with
    | true =>
      have hne := span_letter s k h0 hlet
      have hv : Fs.valAt (kind lo hi l week) s.data.toList k = (Fs.idxOf (l.map (·.data.toList)) (wordOf s k (Fs.span Fs.letterB s.data.toList.length (s.data.toList.drop k)))).map fun i => (lo.toNat + i, k + Fs.span Fs.letterB s.data.toList.length (s.data.toList.drop k)) := by
        simp only [Fs.valAt, if_neg hne, kind, wordOf]
      have Hv := Lib.hid hv
      have hname : ∀ W : World, Names W W.heap.size A l → Calls Tryz.prog 158 #[.agg #[.int .i64 lo, .int .i64 hi, .slice A l.length c, .bool week], .string s, .int .i64 k] W fun e w' => e = .returned (.tuple #[.int .i64 (r3n (Fs.valAt (kind lo hi l week) s.data.toList k)), .int .i64 (r3e k (Fs.valAt (kind lo hi l week) s.data.toList k)), .bool (r3b (Fs.valAt (kind lo hi l week) s.data.toList k))]) ∧ Below W.heap.size W w' :=
        fun W hN => (ref_name s k W lo hi A c l week hs (by omega) hlo hhi hn hcc hN).mono fun _ _ h => ⟨by rw [h.1, ← Hv.out, ret3_eq], h.2⟩
      have Hname := Lib.hid hname; clear hname hv hne
      have HA2 := Lib.hid (HA.out.alloc (.cells #[.int .i64 lo, .int .i64 hi, .slice A l.length c, .bool week] 93))
      go_enter Tryz.func144, Tryz.ntmps144
      go_wp2_with (first
        | (go_at_call 157; refine (ref_letter _ _).mono ?_; rintro e w1 ⟨rfl, rfl⟩)
        | (go_at_call 158; refine (Hname.out _ HA2.out).mono ?_; rintro e w1 ⟨rfl, hb1⟩))
      go_ret3
      exact ⟨by rw [ret3_eq]; rfl, ((Below.refl _ _).alloc (Nat.le_refl _) _).trans (hb1.mono (by simp))⟩
    | false =>
      have Hv := Lib.hid (valAt_num (kind lo hi l week) _ _ (span_noletter s k h0 hlet))
      go_enter Tryz.func144, Tryz.ntmps144
      go_wp2_with (first
        | (go_at_call 157; refine (ref_letter _ _).mono ?_; rintro e w1 ⟨rfl, rfl⟩)
        | (go_at_call 145; refine (Hnum.out _).mono ?_; rintro e w1 ⟨rfl, rfl⟩))
      go_ret3
      exact ⟨by rw [Hv.out, ret3_eq]; rfl, (Below.refl _ _).alloc (Nat.le_refl _) _⟩
  · have Hv := Lib.hid (valAt_num (kind lo hi l week) _ _ (span_past s k (by omega)))
    go_enter Tryz.func144, Tryz.ntmps144
    go_wp2_with (go_at_call 145; refine (Hnum.out _).mono ?_; rintro e w1 ⟨rfl, rfl⟩)
    go_ret3
    exact ⟨by rw [Hv.out, ret3_eq]; rfl, (Below.refl _ _).alloc (Nat.le_refl _) _⟩

end Go.Proofs.YtjnlgaeedcklaaaGreatDoor
