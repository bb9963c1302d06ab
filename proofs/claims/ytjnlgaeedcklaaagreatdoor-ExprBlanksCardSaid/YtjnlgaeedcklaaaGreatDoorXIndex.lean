/-
  The library's IndexAny and ContainsAny at a blank and a tab: every string, whatever its bytes.
-/
import Derived.Test.YtjnlgaeedcklaaaGreatDoorFBase
import Derived.Test.YtjnlgaeedcklaaaGreatDoorFShelf
import Derived.Laws.RangeAny
import Derived.Laws.Runes
import Derived.Lib.IndexAny
import Derived.WalkMore
import Derived.Lib.OthersKept
set_option linter.unusedVariables false
set_option linter.unusedSimpArgs false
namespace Go.Proofs.YtjnlgaeedcklaaaGreatDoor
open Go.RowKit

theorem decode_bytes (s : ByteArray) (pos : Nat) (h : pos < s.size) (ha : 128 ≤ (s.get! pos).toNat) : ∀ j, j < (Utf8.decode s pos).2 → pos + j < s.size ∧ 128 ≤ (s.get! (pos + j)).toNat := by
  have z : ∀ j, j < 1 → pos + j < s.size ∧ 128 ≤ (s.get! (pos + j)).toNat := by
    intro j hj
    obtain rfl : j = 0 := by omega
    exact ⟨h, ha⟩
  have c : ∀ k, (decide (pos + k < s.size) && (s.get! (pos + k)).toNat / 64 == 2) = true → pos + k < s.size ∧ 128 ≤ (s.get! (pos + k)).toNat := by
    intro k hk
    rw [Bool.and_eq_true, decide_eq_true_eq, beq_iff_eq] at hk
    omega
  unfold Utf8.decode
  simp only
  split
  · exact z
  · split
    · rename_i hc
      rw [Bool.and_eq_true] at hc
      split
      · intro j hj
        have : j < 2 := hj
        rcases (by omega : j < 1 ∨ j = 1) with h1 | rfl
        · exact z j h1
        · exact c 1 hc.2
      · exact z
    · split
      · rename_i hc
        rw [Bool.and_eq_true, Bool.and_eq_true] at hc
        split
        · intro j hj
          have : j < 3 := hj
          rcases (by omega : j < 1 ∨ j = 1 ∨ j = 2) with h1 | rfl | rfl
          · exact z j h1
          · exact c 1 hc.1.2
          · exact c 2 hc.2
        · exact z
      · split
        · rename_i hc
          rw [Bool.and_eq_true, Bool.and_eq_true, Bool.and_eq_true] at hc
          split
          · intro j hj
            have : j < 4 := hj
            rcases (by omega : j < 1 ∨ j = 1 ∨ j = 2 ∨ j = 3) with h1 | rfl | rfl | rfl
            · exact z j h1
            · exact c 1 hc.1.1.2
            · exact c 2 hc.1.2
            · exact c 3 hc.2
          · exact z
        · exact z

theorem h116 : (Tryz.prog.info? 137).map (fun i => (i.zero, i.size)) = some (some (.agg (Array.replicate 256 (.bool false))), 256) := by kernel_rfl

/-- A blank and a tab. -/
abbrev blankS : ByteArray := ⟨#[32, 9]⟩
theorem blank_ascii : ∀ (j : Nat) b, blankS.data.toList[j]? = some b → b.toNat < 128 := ascii_of_all (by decide)

theorem index_tab (c : UInt8) (h : 128 ≤ c.toNat) : Lib.indexByte ([] : List UInt8) c = -1 := rfl

set_option maxRecDepth 100000 in
set_option maxHeartbeats 8000000 in
theorem rune_high (r : Int) (w : World) (h1 : 128 ≤ r) (h2 : r ≤ 2147483647) :
    Calls Tryz.prog 93 #[.string { data := #[32, 9] }, .int .i32 r] w fun e w' => e = .returned (.int .i64 (-1)) ∧ Below w.heap.size w w' := by
  by_cases he : r = 65533
  · subst he
    clear h1 h2
    go_enter Tryz.func93, Tryz.ntmps93
    go_wp2
    go_loopg [5, 6] 2 (fun g _ _ wx => ∃ i : Nat, i + g = 2 ∧ wx = w.iter { data := #[32, 9] } i)
    case atStart => exact ⟨0, rfl, rfl⟩
    case round =>
      obtain ⟨i, hig, rfl⟩ := hrel
      cases gk with
      | zero =>
        obtain rfl : i = 2 := by omega
        have hnx := fun ty => run_next_end (P := Tryz.prog) w { data := #[32, 9] } 2 ty (by decide)
        go_wp2
        go_ret
        exact ⟨rfl, (Below.refl _ _).alloc (Nat.le_refl _) _⟩
      | succ g =>
        rcases (by omega : i = 0 ∨ i = 1) with rfl | rfl
        · have hnx := fun ty => run_next_ascii (P := Tryz.prog) w { data := #[32, 9] } 0 ty (by decide) (by decide)
          rw [show ((({ data := #[32, 9] } : ByteArray)[0]'(by decide)).toNat) = 32 from rfl] at hnx
          go_wp2
          go_roundg g
          case measure => omega
          case rel => exact ⟨1, by omega, rfl⟩
        · have hnx := fun ty => run_next_ascii (P := Tryz.prog) w { data := #[32, 9] } 1 ty (by decide) (by decide)
          rw [show ((({ data := #[32, 9] } : ByteArray)[1]'(by decide)).toNat) = 9 from rfl] at hnx
          go_wp2
          go_roundg g
          case measure => omega
          case rel => exact ⟨2, by omega, rfl⟩
  · have hne : (r == 65533) = false := by rw [beq_eq_false_iff_ne]; exact he
    have d1 : decide (r < 128) = false := decide_eq_false (by omega)
    cases hv : Lib.validRune r with
    | false =>
      have HV : Hid (∀ W, Calls Tryz.prog 131 #[.int .i32 r] W fun e w' => e = .returned (.bool false) ∧ W = w') := Lib.hid fun W => (Tryz.utf8_ValidRune r W).mono fun e w' ⟨h, h'⟩ => ⟨by rw [h, hv], h'.symm⟩
      clear hv he
      go_enter Tryz.func93, Tryz.ntmps93
      go_wp2_with (go_at_call 131; (with_reducible refine (HV.out _).mono ?_); rintro e w1 ⟨rfl, rfl⟩)
      go_ret
      exact ⟨rfl, Below.refl _ _⟩
    | true =>
      have HV : Hid (∀ W, Calls Tryz.prog 131 #[.int .i32 r] W fun e w' => e = .returned (.bool true) ∧ W = w') := Lib.hid fun W => (Tryz.utf8_ValidRune r W).mono fun e w' ⟨h, h'⟩ => ⟨by rw [h, hv], h'.symm⟩
      have hv2 : Utf8.valid r = true := by
        simp only [Lib.validRune, decide_eq_true_eq] at hv
        simp only [Utf8.valid, Bool.or_eq_true, Bool.and_eq_true, decide_eq_true_eq]
        omega
      obtain ⟨s1, s2, s3⟩ := encode_facts r hv2 h1
      clear hv hv2 he
      obtain ⟨E, hE⟩ : ∃ E, Utf8.encode r = E := ⟨_, rfl⟩
      rw [hE] at s1 s2 s3
      have HE := Lib.hid hE
      have HI : Hid (∀ (t : ByteArray) (c : Int) W, t.data.toList = [] → Calls Tryz.prog 130 #[.string t, .int .u8 c] W fun e w' => e = .returned (.int .i64 (-1)) ∧ w' = W) := Lib.hid fun t c W ht => (Tryz.strings_IndexByte t c W).mono fun e w' ⟨h, h'⟩ => ⟨by rw [h, ht]; rfl, h'⟩
      by_cases h2 : 2 < E.size
      · have d2 : ¬ ((E.size : Int) - 1 < 2) := by omega
        clear s1 s3
        go_enter Tryz.func93, Tryz.ntmps93
        go_wp2_with (go_at_call 131; (with_reducible refine (HV.out _).mono ?_); rintro e w1 ⟨rfl, rfl⟩)
        go_step3
        go_wp2
        refine wp_loop_rounds 1 ?_
        rw [rounds_succ]
        go_wp2
        rw [Exit.noGoto_ret]
        go_ret
        exact ⟨rfl, Below.refl _ _⟩
      · obtain ⟨a, b, rfl⟩ : ∃ a b : UInt8, E = { data := #[a, b] } := by
          obtain ⟨⟨l⟩⟩ := E
          match l, (show l.length = 2 by have : l.length = ({ data := { toList := l } } : ByteArray).size := rfl; omega) with
          | [a, b], _ => exact ⟨a, b, rfl⟩
        have hb : 128 ≤ b.toNat := s3 (by show 1 < 2; omega)
        have n1 : (((({ data := #[32, 9] } : ByteArray)[1]'(by decide)).toNat : Int) != ((({ data := #[a, b] } : ByteArray)[1]'(by show 1 < 2; omega)).toNat : Int)) = true := by
          rw [bne_iff_ne]
          show ((9 : UInt8).toNat : Int) ≠ (b.toNat : Int)
          have : (9 : UInt8).toNat = 9 := rfl
          omega
        clear s1 s2 s3 h2
        go_enter Tryz.func93, Tryz.ntmps93
        go_wp2_with (go_at_call 131; (with_reducible refine (HV.out _).mono ?_); rintro e w1 ⟨rfl, rfl⟩)
        go_step3
        go_wp2
        refine wp_loop_rounds 1 ?_
        rw [rounds_succ]
        go_wp2
        go_step3
        go_wp2
        go_quiet (fail)
        go_wp2
        have zw : IntKind.i64.wrap ((1 : Int) + 1) = 2 := rfl
        obtain ⟨W1, hW1⟩ : ∃ W1, w.drewN nq = W1 := ⟨_, rfl⟩
        rw [hW1]
        have HW1 := Lib.hid hW1
        clear hW1
        go_quiet ((go_at_call 130; exact Calls.quiet_of_same (HI.out ByteArray.empty _ _ rfl)))
        go_wp2
        rw [Exit.noGoto_ret]
        simp only [Exit.inBlock, Exit.then, Exit.noGoto]
        go_ret
        exact ⟨rfl, by rw [← HW1.out]; exact below_drewN (below_drewN (Below.refl _ _) _) _⟩

theorem get_bang (s : ByteArray) (i : Nat) (h : i < s.size) : s.get! i = s[i] := get_at s i h
theorem noAny_more {s : ByteArray} {i n : Nat} (h : Lib.NoAny s.data.toList [32, 9] i) (hn : ∀ j, j < n → i + j < s.size ∧ 128 ≤ (s.get! (i + j)).toNat) : Lib.NoAny s.data.toList [32, 9] (i + n) := by
  intro j b hj hb
  by_cases hlt : j < i
  · exact h j b hlt hb
  · obtain ⟨k, rfl⟩ : ∃ k, j = i + k := ⟨j - i, by omega⟩
    obtain ⟨h1, h2⟩ := hn k (by omega)
    rw [get_bang s _ h1] at h2
    rw [Lib.data_getElem? s _ h1] at hb
    injection hb with hb
    subst hb
    generalize s[i + k] = c at h2
    rw [List.contains_cons, List.contains_cons, List.contains_nil, Bool.or_false, Bool.or_eq_false_iff, beq_eq_false_iff_ne, beq_eq_false_iff_ne]
    constructor
    · rintro rfl; exact absurd h2 (by decide)
    · rintro rfl; exact absurd h2 (by decide)

set_option maxRecDepth 100000 in
set_option maxHeartbeats 8000000 in
theorem index_short (s : ByteArray) (w : World) (h8 : s.size ≤ 8) :
    Calls Tryz.prog 61 #[.string s, .string { data := #[32, 9] }] w fun e w' => e = .returned (.int .i64 (Lib.indexAny s.data.toList [32, 9])) ∧ Below w.heap.size w w' := by
  have h8z : decide ((8 : Int) < (s.size : Int)) = false := decide_eq_false (by omega)
  have HS : Hid (∀ (n : Int) W, Calls Tryz.prog 94 #[.int .i64 n] W fun e w' => e = .returned (.bool (decide (8 < n))) ∧ W = w') := Lib.hid fun n W => (Tryz.strings_shouldUseASCIISet n W).mono fun e w' ⟨h, h'⟩ => ⟨h, h'.symm⟩
  have HR : Hid (∀ (r : Int) W, 128 ≤ r → r ≤ 2147483647 → Calls Tryz.prog 93 #[.string { data := #[32, 9] }, .int .i32 r] W fun e w' => e = .returned (.int .i64 (-1)) ∧ Below W.heap.size W w') := Lib.hid fun r W h1 h2 => rune_high r W h1 h2
  have HA : Hid (∀ (x : UInt8) W, x.toNat < 128 → Calls Tryz.prog 93 #[.string { data := #[32, 9] }, .int .i32 x.toNat] W fun e w' => e = .returned (.int .i64 (Lib.indexByte [32, 9] x)) ∧ W = w') := Lib.hid fun x W hx => (Tryz.strings_IndexRune_ascii { data := #[32, 9] } x.toNat W (by omega) (by omega)).mono fun e w' ⟨h, h'⟩ => ⟨by rw [h]; simp, h'.symm⟩
  go_enter Tryz.func61, Tryz.ntmps61
  go_wp2_with (go_at_call 94; (with_reducible refine (HS.out _ _).mono ?_); rintro e w1 ⟨rfl, rfl⟩)
  go_loopg [9, 10] s.size (fun g _ _ wx => ∃ i : Nat, i + g = s.size ∧ wx.heap[w.heap.size]? = some (.stringIter s i) ∧ Below w.heap.size w wx ∧ Lib.NoAny s.data.toList [32, 9] i)
  case atStart => exact ⟨0, by omega, World.iter_heap w s 0, (Below.refl _ _).alloc (Nat.le_refl _) _, Lib.NoAny.zero _ _⟩
  case round =>
    obtain ⟨i, hig, hit, hb, hno⟩ := hrel
    have HN := Lib.hid hno
    have HB := Lib.hid hb
    have HI := Lib.hid hit
    clear hno hb hit
    cases gk with
    | zero =>
      obtain rfl : i = s.size := by omega
      have hnx := fun ty => Lib.run_next_end_at (P := Tryz.prog) wr w.heap.size s s.size ty HI.out (by omega)
      go_wp2
      go_ret
      exact ⟨by rw [Lib.indexAny_none (by rw [← Lib.size_eq]; exact HN.out)]; rfl, HB.out⟩
    | succ g =>
      have hi : i < s.size := by omega
      obtain ⟨x, hx⟩ : ∃ x : UInt8, s[i]'hi = x := ⟨_, rfl⟩
      have hxl : s.data.toList[i]? = some x := by rw [← hx]; exact Lib.data_getElem? s i hi
      have HX := Lib.hid hxl
      by_cases hlow : x.toNat < 128
      · have hnx := fun ty => Lib.run_next_ascii_at (P := Tryz.prog) wr w.heap.size s i ty HI.out hi (by rw [hx]; exact hlow)
        rw [hx] at hnx
        have hcon := Lib.contains_iff_indexByte [32, 9] x
        have HC := Lib.hid hcon
        have HYtjnlgaeedcklaaaGreatDoor := Lib.hid hx
        clear hxl hx hcon
        cases hin : ([32, 9] : List UInt8).contains x with
        | false =>
          have hlt : ¬ ((0 : Int) ≤ Lib.indexByte [32, 9] x) := by have := HC.out; rw [hin] at this; exact of_decide_eq_false this.symm
          have Hin := Lib.hid hin
          clear hin
          generalize hv : Lib.indexByte [32, 9] x = v at hlt
          have HA2 : Hid (∀ W, Calls Tryz.prog 93 #[.string { data := #[32, 9] }, .int .i32 x.toNat] W fun e w' => e = .returned (.int .i64 v) ∧ W = w') := Lib.hid fun W => by rw [← hv]; exact HA.out x W hlow
          clear hv
          go_wp2_with (go_at_call 93; (with_reducible refine (HA2.out _).mono ?_); rintro e w1 ⟨rfl, rfl⟩)
          go_roundg g
          case measure => omega
          case rel => exact ⟨i + 1, by omega, Lib.iterAt_heap _ _ _ _ _ HI.out, Lib.below_iterAt HB.out (Nat.le_refl _) _ _, HN.out.succ HX.out Hin.out⟩
        | true =>
          have hge : (0 : Int) ≤ Lib.indexByte [32, 9] x := by have := HC.out; rw [hin] at this; exact of_decide_eq_true this.symm
          have Hin := Lib.hid hin
          clear hin
          generalize hv : Lib.indexByte [32, 9] x = v at hge
          have HA2 : Hid (∀ W, Calls Tryz.prog 93 #[.string { data := #[32, 9] }, .int .i32 x.toNat] W fun e w' => e = .returned (.int .i64 v) ∧ W = w') := Lib.hid fun W => by rw [← hv]; exact HA.out x W hlow
          clear hv
          go_wp2_with (go_at_call 93; (with_reducible refine (HA2.out _).mono ?_); rintro e w1 ⟨rfl, rfl⟩)
          go_ret
          exact ⟨by rw [Lib.indexAny_hit HN.out HX.out Hin.out]; rfl, Lib.below_iterAt HB.out (Nat.le_refl _) _ _⟩
      · have hnx := fun ty => Lib.run_next_any_at (P := Tryz.prog) wr w.heap.size s i ty HI.out hi
        obtain ⟨hd1, hd2⟩ := decode_high s i hi (by rw [hx]; omega)
        have hd3 := decode_le s i
        have hd4 := decode_bytes s i hi (by rw [get_bang s i hi, hx]; omega)
        have hmore := noAny_more HN.out hd4
        have HM := Lib.hid hmore
        have HD := Lib.hid hd4
        clear hmore hd4 hxl hx
        generalize Utf8.decode s i = q at *
        obtain ⟨c, n⟩ := q
        simp only at hd1 hd2 hd3 hnx
        have hend := (HD.out (n - 1) (by show n - 1 < n; omega)).1
        have HM2 : Hid (Lib.NoAny s.data.toList [32, 9] (i + n)) := HM
        clear HM HD
        have HR2 : Hid (∀ W, Calls Tryz.prog 93 #[.string { data := #[32, 9] }, .int .i32 (c : Int)] W fun e w' => e = .returned (.int .i64 (-1)) ∧ Below W.heap.size W w') := Lib.hid fun W => HR.out c W (by omega) (by omega)
        obtain ⟨wq, hwq⟩ : ∃ wq, wr.iterAt w.heap.size s (i + n) = wq := ⟨_, rfl⟩
        rw [hwq] at hnx
        have HQ : Hid (wq.heap[w.heap.size]? = some (.stringIter s (i + n))) := Lib.hid (hwq ▸ Lib.iterAt_heap _ _ _ _ _ HI.out)
        have HBq : Hid (Below w.heap.size w wq) := Lib.hid (hwq ▸ Lib.below_iterAt HB.out (Nat.le_refl _) _ _)
        clear hwq
        go_wp2_with (go_at_call 93; (with_reducible refine (HR2.out _).mono ?_); rintro e w1 ⟨rfl, hb1⟩)
        have hlt := (Array.getElem?_eq_some_iff.1 HQ.out).1
        go_roundg (s.size - (i + n))
        case measure => omega
        case rel => exact ⟨i + n, by omega, (hb1.block _ hlt).trans HQ.out, HBq.out.trans (hb1.mono (Nat.le_of_lt hlt)), HM2.out⟩

theorem index_blank (s : ByteArray) (w : World) (hs : s.size < 4294967281) :
    Calls Tryz.prog 61 #[.string s, .string { data := #[32, 9] }] w fun e w' => e = .returned (.int .i64 (Lib.indexAny s.data.toList [32, 9])) ∧ Below w.heap.size w w' := by
  by_cases h8 : s.size ≤ 8
  · exact index_short s w h8
  · refine (Tryz.strings_IndexAny_long (zero_of_info h116).1 s { data := #[32, 9] } w (by decide) (by omega) hs (by decide) blank_ascii).mono fun e w' ⟨h1, h2⟩ => ⟨h1, ?_⟩
    rw [h2]
    exact ((Below.refl _ _).alloc (Nat.le_refl _) _).alloc (by simp) _

theorem trim_left (s : ByteArray) (w : World) :
    Calls Tryz.prog 72 #[.string s, .string { data := #[32, 9] }] w fun e w' => e = .returned (.string ⟨(Lib.trimLeftS s.data.toList [32, 9]).toArray⟩) ∧ Below w.heap.size w w' :=
  Any.strings_TrimLeft_laid Tryz.lays161 h116 s { data := #[32, 9] } w (by decide) blank_ascii
theorem trim_right (s : ByteArray) (w : World) (hs : s.size ≤ 9223372036854775807) :
    Calls Tryz.prog 41 #[.string s, .string { data := #[32, 9] }] w fun e w' => e = .returned (.string ⟨(Lib.trimRightS s.data.toList [32, 9]).toArray⟩) ∧ Below w.heap.size w w' :=
  Any.strings_TrimRight_laid Tryz.lays162 h116 s { data := #[32, 9] } w hs (by decide) blank_ascii
end Go.Proofs.YtjnlgaeedcklaaaGreatDoor
