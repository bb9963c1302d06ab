/-
  Whether a kind of fields is allowed: named, upper, and Check of the program and of the document.
-/
import Derived.Test.YtjnlgaeedcklaaaGreatDoorFBits
import Derived.Test.YtjnlgaeedcklaaaGreatDoorFShelf
set_option linter.unusedVariables false
set_option linter.unusedSimpArgs false
namespace Go.Proofs.YtjnlgaeedcklaaaGreatDoor
open Go.RowKit

/-- The letters A to Z. -/
def letters : List UInt8 := [65, 66, 67, 68, 69, 70, 71, 72, 73, 74, 75, 76, 77, 78, 79, 80, 81, 82, 83, 84, 85, 86, 87, 88, 89, 90]

theorem letters_has (c : UInt8) : letters.contains c = Fs.upperB c := by
  have h : ∀ n : Fin 256, letters.contains (UInt8.ofNat n.val) = (decide (65 ≤ n.val) && decide (n.val ≤ 90)) := by decide +kernel
  have := h ⟨c.toNat, c.toNat_lt⟩
  simpa [Fs.upperB] using this

theorem dropWhile_nil {α : Type} (p : α → Bool) (l : List α) : l.dropWhile p = [] ↔ l.all p = true := by
  induction l with
  | nil => simp
  | cons a l ih =>
    by_cases h : p a = true
    · simp [h, ih]
    · simp [h]

theorem trim_nil (l cs : List UInt8) : (Lib.trimS l cs).isEmpty = l.all (cs.contains ·) := by
  rw [Bool.eq_iff_iff, List.isEmpty_iff]
  unfold Lib.trimS Lib.trimLeftS Lib.trimRightS
  constructor
  · intro h
    by_cases h2 : l.all (cs.contains ·) = true
    · exact h2
    · exfalso
      -- what is left of the end begins with a byte that is not in the set
      have h3 : (l.reverse.dropWhile (cs.contains ·)).head? ≠ none := by
        intro h4
        rw [List.head?_eq_none_iff] at h4
        exact h2 (by simpa using (dropWhile_nil _ _).1 h4)
      rw [dropWhile_nil] at h
      cases hh : l.reverse.dropWhile (cs.contains ·) with
      | nil => exact h3 (by rw [hh]; rfl)
      | cons a r =>
        have h5 := List.head?_dropWhile_not (cs.contains ·) l.reverse
        rw [hh] at h5 h
        simp at h5
        rw [List.all_eq_true] at h
        have := h a (by simp)
        simp at this
        exact h5 this
  · intro h
    have h1 : l.reverse.dropWhile (cs.contains ·) = [] := by
      rw [dropWhile_nil, List.all_eq_true]
      rw [List.all_eq_true] at h
      intro x hx
      exact h x (by simpa using hx)
    rw [h1]; rfl

theorem field_named (s : ByteArray) (w : World) (hs : s.size ≤ 140737488355328) :
    Calls Tryz.prog 98 #[.string s] w fun e w' => e = .returned (.bool (Fs.nameOk s.data.toList)) ∧ Below w.heap.size w w' := by
  have hsz := Lib.size_eq s
  have htl := Lib.toList_data s
  by_cases h0 : s.data.toList = []
  · have hv : Fs.nameOk s.data.toList = false := by simp [Fs.nameOk, h0]
    have Hv := Lib.hid hv; clear hv
    have he : s.toList = [] := by rw [htl, h0]
    clear hsz htl h0
    go_enter Tryz.func98, Tryz.ntmps98
    go_wp2_with fail
    go_ret
    exact ⟨ret_bool Hv.out.symm, Below.refl _ _⟩
  · by_cases h1 : s.size ≤ 9
    · have hv : (Lib.trimS s.data.toList letters).isEmpty = Fs.nameOk s.data.toList := by
        rw [trim_nil]
        have e1 : 1 ≤ s.data.toList.length := by
          rcases Nat.eq_zero_or_pos s.data.toList.length with h | h
          · exact absurd (List.length_eq_zero_iff.1 h) h0
          · exact h
        have e2 : s.data.toList.length ≤ 9 := by omega
        simp only [Fs.nameOk, e1, e2, decide_true, Bool.and_true]
        congr 1
        funext c; exact letters_has c
      have Hv := Lib.hid hv; clear hv
      have hne : ¬ s.toList = [] := by rw [htl]; exact h0
      have HT := Any.strings_Trim_laid Tryz.lays160 (by kernel_rfl) s ⟨#[65, 66, 67, 68, 69, 70, 71, 72, 73, 74, 75, 76, 77, 78, 79, 80, 81, 82, 83, 84, 85, 86, 87, 88, 89, 90]⟩ w (by omega) (by decide) (ascii_of_all (by decide))
      have HT' := Lib.hid HT; clear HT
      clear hsz htl h0
      go_enter Tryz.func98, Tryz.ntmps98
      go_wp2_with (go_at_call 135; refine HT'.out.mono ?_; rintro e w' ⟨rfl, hb⟩)
      go_ret
      refine ⟨ret_bool ?_, hb⟩
      rw [← Hv.out, Lib.toList_data]
      have h3 : s.data.toList.isEmpty = false := by
        rw [← Lib.toList_data, List.isEmpty_eq_false_iff]; exact hne
      rw [h3]; rfl
    · have hv : Fs.nameOk s.data.toList = false := by
        have h2 : ¬ s.data.toList.length ≤ 9 := by omega
        clear hsz htl
        generalize s.data.toList = l at h2
        simp [Fs.nameOk, h2]
      have Hv := Lib.hid hv; clear hv
      have hne : ¬ s.toList = [] := by rw [htl]; exact h0
      clear hsz htl h0
      go_enter Tryz.func98, Tryz.ntmps98
      go_wp2_with fail
      all_goals (first | (exfalso; exact hne ‹_›) | (go_ret; exact ⟨ret_bool Hv.out.symm, Below.refl _ _⟩))

theorem take_snoc (s : ByteArray) (k : Nat) (h : k < s.size) : s.data.toList.take (k + 1) = s.data.toList.take k ++ [s[k]] := by
  rw [List.take_succ_eq_append_getElem (by simpa using h)]; rfl

theorem getElem_data (s : ByteArray) (k : Nat) (h : k < s.size) : s.data.toList[k]? = some s[k] := by
  rw [List.getElem?_eq_getElem (by simpa using h)]; rfl

theorem name_bad (s : ByteArray) (k : Nat) (h : k < s.size) (hu : ¬(65 ≤ s[k].toNat ∧ s[k].toNat ≤ 90)) : Fs.nameOk s.data.toList = false := by
  have h1 := getElem_data s k h
  have h2 : Fs.upperB s[k] = false := by
    simp only [Fs.upperB, Bool.and_eq_false_iff, decide_eq_false_iff_not]; omega
  generalize s[k] = c at h1 h2
  generalize s.data.toList = l at h1
  have h3 : l.all Fs.upperB = false := by
    rw [List.all_eq_false]
    exact ⟨c, List.mem_of_getElem? h1, by simp [h2]⟩
  simp [Fs.nameOk, h3]

theorem ref_upper (s : ByteArray) (w : World) (hs : s.size ≤ 140737488355328) :
    Calls Tryz.prog 116 #[.string s] w fun e w' => e = .returned (.bool (Fs.nameOk s.data.toList)) ∧ w = w' := by
  have hsz := Lib.size_eq s
  have Hz := Lib.hid hsz; clear hsz
  go_enter Tryz.func116, Tryz.ntmps116
  go_wp2
  go_loop [3] (fun i => ∃ k : Nat, k ≤ s.size ∧ i = .int .i64 k ∧ (s.data.toList.take k).all Fs.upperB = true) (fun i => s.size - (intOf i).toNat)
  case atStart => exact ⟨0, Nat.zero_le _, rfl, rfl⟩
  case round =>
    obtain ⟨k, hk, rfl, hall⟩ := hrel
    have Ha := Lib.hid hall; clear hall
    by_cases hlt : k < s.size
    · by_cases hu : 65 ≤ s[k].toNat ∧ s[k].toNat ≤ 90
      · have Hts := Lib.hid (take_snoc s k hlt)
        go_wp2
        go_round
        case rel => exact ⟨k + 1, by omega, by go_num, by rw [Hts.out, List.all_append, Ha.out]; simp [Fs.upperB]; omega⟩
        case measure => simp [intOf]; omega
      · have Hb := Lib.hid (name_bad s k hlt hu)
        go_wp2
        all_goals (go_ret; exact ⟨ret_bool Hb.out.symm, rfl⟩)
    · have hkk : k = s.data.toList.length := by have := Hz.out; omega
      have hall := Ha.out
      rw [hkk, List.take_length] at hall
      have hv : Fs.nameOk s.data.toList = (decide (1 ≤ s.size) && decide (s.size ≤ 9)) := by
        rw [Fs.nameOk, hall, Bool.true_and, ← Hz.out]
      have Hv := Lib.hid hv
      clear hv hall hkk
      go_wp2
      all_goals
        go_ret
        refine ⟨ret_bool ?_, rfl⟩
        rw [Hv.out, Bool.eq_iff_iff]
        simp only [Bool.and_eq_true, decide_eq_true_eq, Bool.false_eq_true]
        constructor <;> intro h <;> first | omega | exact h.elim | trivial

def Names (w : World) (B : Nat) (A : Option Addr) (l : List ByteArray) : Prop :=
  l = [] ∨ ∃ b off, A = some ⟨b, off, none⟩ ∧ b < B ∧ ∀ j, j < l.length → w.cell? ⟨b, off + j, none⟩ = some (.string (l.getD j ByteArray.empty))
def kind (lo hi : Int) (l : List ByteArray) (week : Bool) : Fs.Kind := ⟨lo, hi, l.map (·.data.toList), week⟩



theorem bytes_ext {x y : ByteArray} (h : x.data.toList = y.data.toList) : x = y := by
  cases x; cases y; simp only [ByteArray.mk.injEq] at *; exact Array.toList_inj.1 h
theorem containsS_eq (zs : List ByteArray) (x : ByteArray) : Lib.containsS zs x = (zs.map (·.data.toList)).contains x.data.toList := by
  rw [Bool.eq_iff_iff, Lib.containsS_iff, List.contains_iff_mem, List.mem_map]
  constructor
  · intro h; exact ⟨x, h, rfl⟩
  · rintro ⟨y, hy, he⟩; rw [← bytes_ext he]; exact hy
theorem namesOk_step (l : List ByteArray) (k : Nat) (h : k < l.length) : Fs.namesOk ((l.map (·.data.toList)).take k) ((l.map (·.data.toList)).drop k) = (Fs.nameOk (l.getD k ByteArray.empty).data.toList && !(Lib.containsS (l.take k) (l.getD k ByteArray.empty)) && Fs.namesOk ((l.map (·.data.toList)).take (k + 1)) ((l.map (·.data.toList)).drop (k + 1))) := by
  have hk : k < (l.map (·.data.toList)).length := by simpa using h
  have e : (l.map (·.data.toList))[k] = (l.getD k ByteArray.empty).data.toList := by
    rw [List.getD_eq_getElem?_getD, List.getElem?_eq_getElem h]; simp
  rw [List.drop_eq_getElem_cons hk, containsS_eq, List.map_take, List.take_succ_eq_append_getElem hk, ← e]
  rfl


set_option maxHeartbeats 1600000 in
theorem field_Check_loop (lo hi : Int) (b off c : Nat) (l : List ByteArray) (week : Bool) (w : World)
   (hn : l.length ≤ 1000) (hlo : 0 ≤ lo) (hlh : lo ≤ hi) (hhi : hi ≤ 62) (hwk : week = true → lo = 0 ∧ hi = 6) (h0 : 0 < l.length) (hl : (l.length : Int) = hi - lo + 1)
   (hcc : l.length ≤ c)
   (hb : b < w.heap.size) (hc : ∀ j, j < l.length → w.cell? ⟨b, off + j, none⟩ = some (.string (l.getD j ByteArray.empty))) (hsz : ∀ s ∈ l, s.size ≤ 1000) :
    Calls Tryz.prog 63 #[.agg #[.int .i64 lo, .int .i64 hi, .slice (some ⟨b, off, none⟩) l.length c, .bool week]] w fun e w' => e = .returned (.int .i64 (Fs.errOf (Fs.namesOk [] (l.map (·.data.toList))))) ∧ Below w.heap.size w w' := by
  have d1 : ((l.length : Int) != hi - lo + 1) = false := by rw [bne_eq_false_iff_eq]; exact hl
  have D1 := Lib.hid d1
  have Hc := Lib.hid hc
  have Hl := Lib.hid hl
  have Hsz := Lib.hid hsz
  clear hl hc d1 hsz
  generalize hL : l.map (·.data.toList) = L
  have HL := Lib.hid hL
  clear hL
  cases week
  case' false =>
    have hl := D1.out
    clear hwk
    go_enter Tryz.func63, Tryz.ntmps63
    go_wp2
  case' true =>
    obtain ⟨rfl, rfl⟩ := hwk rfl
    clear hwk
    have hl : ((l.length : Int) != 7) = false := by rw [bne_eq_false_iff_eq]; have := Hl.out; omega
    go_enter Tryz.func63, Tryz.ntmps63
    go_wp2
  all_goals
    go_loopw [4, 5, 54] (fun _ _ i wr => ∃ k : Nat, k ≤ l.length ∧ i = .int .i64 k ∧ Below w.heap.size w wr ∧ wr.cell? ⟨w.heap.size, 2, none⟩ = some (.slice (some ⟨b, off, none⟩) l.length c) ∧ w.heap.size < wr.heap.size ∧ Fs.namesOk [] L = Fs.namesOk (L.take k) (L.drop k)) (fun _ _ i _ => l.length - (intOf i).toNat)
    case atStart => exact ⟨0, Nat.zero_le _, rfl, (Below.refl _ _).alloc (Nat.le_refl _) _, by go_simp, by simp, rfl⟩
    case round =>
      obtain ⟨k, hk, rfl, hbw, hcell, hsz1, heq⟩ := hrel
      have Heq := Lib.hid heq; clear heq
      by_cases hlt : k < l.length
      · have hck : wr.cell? ⟨b, off + k, none⟩ = some (.string (l.getD k ByteArray.empty)) := by rw [hbw.cell (p := ⟨b, off + k, none⟩) hb]; exact Hc.out k hlt
        have hsk : (l.getD k ByteArray.empty).size ≤ 1000 := Hsz.out _ (by rw [List.getD_eq_getElem?_getD, List.getElem?_eq_getElem hlt]; exact List.getElem_mem hlt)
        have hstep := namesOk_step l k hlt
        rw [HL.out] at hstep
        have Hcs : Hid (∀ j, j < l.length → wr.cell? ⟨b, off + j, none⟩ = some (.string (l.getD j ByteArray.empty))) := Lib.hid fun j hj => by rw [hbw.cell (p := ⟨b, off + j, none⟩) hb]; exact Hc.out j hj
        generalize l.getD k ByteArray.empty = x at hck hsk hstep
        have Hstep := Lib.hid hstep; clear hstep
        have hbb : b < wr.heap.size := by omega
        by_cases hnm : Fs.nameOk x.data.toList = true
        · by_cases hct : Lib.containsS (l.take k) x = true
          all_goals
            go_wp2_with (first
              | (go_at_call 98; refine (field_named _ _ (by omega)).mono ?_; rintro e w1 ⟨rfl, hb1⟩; have hcell1 := (hb1.cell (p := ⟨w.heap.size, 2, none⟩) hsz1).trans hcell)
              | (go_at_call 99; refine (Tryz.slices_Contains_string b off k c l x _ (by omega) (by omega) (fun j hj => (hb1.cell (p := ⟨b, off + j, none⟩) hbb).trans (Hcs.out j hj))).mono ?_; rintro e w2 ⟨rfl, h2⟩; obtain rfl := h2.symm))
            first
            | (go_ret; exact ⟨ret_int (by rw [Heq.out, Hstep.out, hct]; simp [Fs.errOf]), hbw.trans (hb1.mono hbw.size)⟩)
            | (go_roundw
               case rel => exact ⟨k + 1, by omega, by go_num, hbw.trans (hb1.mono hbw.size), hcell1, by have := hb1.size; omega, by rw [Heq.out, Hstep.out, hnm]; simp [hct]⟩
               case measure => simp [intOf]; omega)
        · have hnm' : Fs.nameOk x.data.toList = false := by simpa using hnm
          clear hnm
          go_wp2_with (go_at_call 98; refine (field_named _ _ (by omega)).mono ?_; rintro e w1 ⟨rfl, hb1⟩; have hcell1 := (hb1.cell (p := ⟨w.heap.size, 2, none⟩) hsz1).trans hcell)
          go_ret
          exact ⟨ret_int (by rw [Heq.out, Hstep.out, hnm']; rfl), hbw.trans (hb1.mono hbw.size)⟩
      · have hkk : k = l.length := by omega
        have hend : Fs.namesOk [] L = true := by
          rw [Heq.out, hkk, List.drop_eq_nil_of_le (by rw [← HL.out]; simp)]; rfl
        have Hend := Lib.hid hend; clear hend
        go_wp2
        go_ret
        exact ⟨ret_int (by rw [Hend.out]; rfl), hbw⟩

set_option maxHeartbeats 1600000 in
theorem field_Check_bad (lo hi : Int) (A : Option Addr) (n c : Nat) (week : Bool) (w : World) (h1 : -9223372036854775808 ≤ lo) (h2 : lo ≤ 9223372036854775807) (h3 : -9223372036854775808 ≤ hi) (h4 : hi ≤ 9223372036854775807)
    (hn : n ≤ 1000) (hr : Fs.boundsOk lo hi n week = false) :
    Calls Tryz.prog 63 #[.agg #[.int .i64 lo, .int .i64 hi, .slice A n c, .bool week]] w fun e w' => e = .returned (.int .i64 2) ∧ Below w.heap.size w w' := by
  unfold Fs.boundsOk at hr
  by_cases a1 : 0 ≤ lo
  case' neg => clear hr
  case' pos =>
    by_cases a2 : lo ≤ hi
    case' neg => clear hr
    case' pos =>
      by_cases a3 : hi ≤ 62
      case' neg => clear hr
      case' pos =>
        cases week
        case' false =>
          have a4 : ¬ n = 0 := by rintro rfl; simp [a1, a2, a3] at hr
          have a5 : ((n : Int) != hi - lo + 1) = true := by
            rw [bne_iff_ne]; intro h
            simp [a1, a2, a3, h] at hr
          have a6 : 0 < n := by omega
          clear hr a4
        case' true =>
          by_cases b1 : lo = 0
          case' neg =>
            have b2 : (lo != 0) = true := by rw [bne_iff_ne]; exact b1
            clear hr b1
          case' pos =>
            subst b1
            by_cases b3 : hi = 6
            case' neg =>
              have b4 : (hi != 6) = true := by rw [bne_iff_ne]; exact b3
              clear hr b3
            case' pos =>
              subst b3
              have a4 : ¬ n = 0 := by rintro rfl; simp at hr
              have a5 : ((n : Int) != 7) = true := by
                rw [bne_iff_ne]; intro h
                have h' : n = 7 := by omega
                subst h'; simp at hr
              have a6 : 0 < n := by omega
              clear hr a4
  all_goals
    go_enter Tryz.func63, Tryz.ntmps63
    go_wp2
    go_ret
    exact ⟨rfl, (Below.refl _ _).alloc (Nat.le_refl _) _⟩


set_option maxHeartbeats 1600000 in
theorem field_Check_none (lo hi : Int) (A : Option Addr) (c : Nat) (week : Bool) (w : World) (hlo : 0 ≤ lo) (hlh : lo ≤ hi) (hhi : hi ≤ 62) (hwk : week = true → lo = 0 ∧ hi = 6) :
    Calls Tryz.prog 63 #[.agg #[.int .i64 lo, .int .i64 hi, .slice A 0 c, .bool week]] w fun e w' => e = .returned (.int .i64 0) ∧ Below w.heap.size w w' := by
  cases week
  case' false =>
    clear hwk
    go_enter Tryz.func63, Tryz.ntmps63
    go_wp2
  case' true =>
    obtain ⟨rfl, rfl⟩ := hwk rfl
    clear hwk
    go_enter Tryz.func63, Tryz.ntmps63
    go_wp2
  all_goals
    go_loop [54] (fun i => i = .int .i64 0) (fun _ => 0)
    case atStart => rfl
    case round =>
      obtain rfl := hrel
      go_wp2
      go_ret
      exact ⟨rfl, (Below.refl _ _).alloc (Nat.le_refl _) _⟩

theorem kind_check (lo hi : Int) (l : List ByteArray) (week : Bool) : Fs.checkB (kind lo hi l week) = (Fs.boundsOk lo hi l.length week && Fs.namesOk [] (l.map (·.data.toList))) := by
  unfold Fs.checkB Fs.rangeOk kind
  simp only [List.length_map]

theorem bounds_of (lo hi : Int) (n : Nat) (week : Bool) (h : Fs.boundsOk lo hi n week = true) : 0 ≤ lo ∧ lo ≤ hi ∧ hi ≤ 62 ∧ (week = true → lo = 0 ∧ hi = 6) ∧ (n = 0 ∨ (n : Int) = hi - lo + 1) := by
  simp only [Fs.boundsOk, Bool.and_eq_true, Bool.or_eq_true, decide_eq_true_eq, Bool.not_eq_true'] at h
  obtain ⟨⟨⟨⟨h1, h2⟩, h3⟩, h4⟩, h5⟩ := h
  refine ⟨h1, h2, h3, fun hw => ?_, h5⟩
  rcases h4 with h4 | h4
  · rw [hw] at h4; cases h4
  · exact h4

/-- Check, of the program. -/
theorem field_Check (lo hi : Int) (A : Option Addr) (c : Nat) (l : List ByteArray) (week : Bool) (w : World) (h1 : -9223372036854775808 ≤ lo) (h2 : lo ≤ 9223372036854775807) (h3 : -9223372036854775808 ≤ hi) (h4 : hi ≤ 9223372036854775807)
    (hn : l.length ≤ 1000) (hcc : l.length ≤ c) (hA : Names w w.heap.size A l) (hsz : ∀ s ∈ l, s.size ≤ 1000) :
    Calls Tryz.prog 63 #[.agg #[.int .i64 lo, .int .i64 hi, .slice A l.length c, .bool week]] w fun e w' => e = .returned (.int .i64 (Fs.errOf (Fs.checkB (kind lo hi l week)))) ∧ Below w.heap.size w w' := by
  rw [kind_check]
  by_cases hb : Fs.boundsOk lo hi l.length week = true
  · obtain ⟨a1, a2, a3, a4, a5⟩ := bounds_of _ _ _ _ hb
    rw [hb, Bool.true_and]
    rcases hA with rfl | ⟨b, off, rfl, hlt, hc⟩
    · exact field_Check_none lo hi A c week w a1 a2 a3 a4
    · by_cases h0 : l = []
      · subst h0
        exact field_Check_none lo hi _ c week w a1 a2 a3 a4
      · have h0' : 0 < l.length := List.length_pos_iff.2 h0
        exact field_Check_loop lo hi b off c l week w hn a1 a2 a3 a4 h0' (by omega) hcc hlt hc hsz
  · have hb' : Fs.boundsOk lo hi l.length week = false := by simpa using hb
    rw [hb', Bool.false_and]
    exact field_Check_bad lo hi A l.length c week w h1 h2 h3 h4 hn hb'

end Go.Proofs.YtjnlgaeedcklaaaGreatDoor
