/-
  Check of the document's text.
-/
import Derived.Test.YtjnlgaeedcklaaaGreatDoorFCheck
set_option linter.unusedVariables false
set_option linter.unusedSimpArgs false
namespace Go.Proofs.YtjnlgaeedcklaaaGreatDoor
open Go.RowKit

/-- None of the first k names is x. -/
def noneOf (l : List ByteArray) (k : Nat) (x : ByteArray) : Prop := ∀ j, j < k → (l.getD j ByteArray.empty).data.toList ≠ x.data.toList

theorem noneOf_contains (l : List ByteArray) (k : Nat) (x : ByteArray) (hk : k ≤ l.length) (h : noneOf l k x) : Lib.containsS (l.take k) x = false := by
  cases hc : Lib.containsS (l.take k) x with
  | false => rfl
  | true =>
    rw [Lib.containsS_iff] at hc
    obtain ⟨j, hj, he⟩ := List.getElem_of_mem hc
    have hj' : j < k := by simp at hj; omega
    exfalso
    apply h j hj'
    rw [List.getD_eq_getElem?_getD, List.getElem?_eq_getElem (by omega)]
    simp only [List.getElem_take] at he
    simp [he]
theorem someOf_contains (l : List ByteArray) (k j : Nat) (x : ByteArray) (hk : k ≤ l.length) (hj : j < k) (h : (l.getD j ByteArray.empty).data.toList = x.data.toList) : Lib.containsS (l.take k) x = true := by
  rw [Lib.containsS_iff]
  have e := bytes_ext h
  rw [List.getD_eq_getElem?_getD, List.getElem?_eq_getElem (by omega)] at e
  rw [← e]
  simp only [Option.getD_some]
  exact List.mem_take_iff_getElem.2 ⟨j, by omega, rfl⟩

set_option maxHeartbeats 3200000 in
theorem ref_Check_loop (lo hi : Int) (b off c : Nat) (l : List ByteArray) (week : Bool) (w : World)
   (hn : l.length ≤ 1000) (hlo : 0 ≤ lo) (hlh : lo ≤ hi) (hhi : hi ≤ 62) (hwk : week = true → lo = 0 ∧ hi = 6) (h0 : 0 < l.length) (hl : (l.length : Int) = hi - lo + 1)
   (_hcc : l.length ≤ c)
   (hb : b < w.heap.size) (hc : ∀ j, j < l.length → w.cell? ⟨b, off + j, none⟩ = some (.string (l.getD j ByteArray.empty))) (hsz : ∀ s ∈ l, s.size ≤ 1000) :
    Calls Tryz.prog 77 #[.agg #[.int .i64 lo, .int .i64 hi, .slice (some ⟨b, off, none⟩) l.length c, .bool week]] w fun e w' => e = .returned (.int .i64 (Fs.errOf (Fs.namesOk [] (l.map (·.data.toList))))) ∧ Below w.heap.size w w' := by
  have d1 : ((l.length : Int) != hi - lo + 1) = false := by rw [bne_eq_false_iff_eq]; exact hl
  have d2 : ((l.length : Int) != 0) = true := by rw [bne_iff_ne]; omega
  have D1 := Lib.hid d1
  have Hc := Lib.hid hc
  have Hl := Lib.hid hl
  have Hsz := Lib.hid hsz
  clear hl hc d1 hsz
  generalize hL : l.map (·.data.toList) = L
  have HL := Lib.hid hL
  clear hL
  cases week
  case' false =>
    have hl := D1.out
    clear hwk
    go_enter Tryz.func77, Tryz.ntmps77
    go_wp2
  case' true =>
    obtain ⟨rfl, rfl⟩ := hwk rfl
    clear hwk
    have hl : ((l.length : Int) != 7) = false := by rw [bne_eq_false_iff_eq]; have := Hl.out; omega
    go_enter Tryz.func77, Tryz.ntmps77
    go_wp2
  all_goals
    go_loopw [3, 4] (fun i _ wr => ∃ k : Nat, k ≤ l.length ∧ i = .int .i64 k ∧ Below w.heap.size w wr ∧ wr.cell? ⟨w.heap.size, 2, none⟩ = some (.slice (some ⟨b, off, none⟩) l.length c) ∧ w.heap.size < wr.heap.size ∧ Fs.namesOk [] L = Fs.namesOk (L.take k) (L.drop k)) (fun i _ _ => l.length - (intOf i).toNat)
    case atStart => exact ⟨0, Nat.zero_le _, rfl, (Below.refl _ _).alloc (Nat.le_refl _) _, by go_simp, by simp, rfl⟩
    case round =>
      obtain ⟨k, hk, rfl, hbw, hcell, hsz1, heq⟩ := hrel
      have Heq := Lib.hid heq; clear heq
      by_cases hlt : k < l.length
      · have hck : wr.cell? ⟨b, off + k, none⟩ = some (.string (l.getD k ByteArray.empty)) := by rw [hbw.cell (p := ⟨b, off + k, none⟩) hb]; exact Hc.out k hlt
        have hsk : (l.getD k ByteArray.empty).size ≤ 1000 := Hsz.out _ (by rw [List.getD_eq_getElem?_getD, List.getElem?_eq_getElem hlt]; exact List.getElem_mem hlt)
        have hstep := namesOk_step l k hlt
        rw [HL.out] at hstep
        have Hcs : Hid (∀ j, j < l.length → wr.cell? ⟨b, off + j, none⟩ = some (.string (l.getD j ByteArray.empty))) := Lib.hid fun j hj => by rw [hbw.cell (p := ⟨b, off + j, none⟩) hb]; exact Hc.out j hj
        generalize hx : l.getD k ByteArray.empty = x at hck hsk hstep
        have Hx := Lib.hid hx; clear hx
        have Hstep := Lib.hid hstep; clear hstep
        by_cases hnm : Fs.nameOk x.data.toList = true
        · go_wp2_with (go_at_call 116; refine (ref_upper _ _ (by omega)).mono ?_; rintro e w1 ⟨rfl, rfl⟩)
          obtain ⟨wo, rfl⟩ : ∃ wo : World, wo = wr := ⟨_, rfl⟩
          go_loopw [4] (fun i wr => ∃ j : Nat, j ≤ k ∧ i = .int .i64 j ∧ Below w.heap.size w wr ∧ wr.cell? ⟨w.heap.size, 2, none⟩ = some (.slice (some ⟨b, off, none⟩) l.length c) ∧ w.heap.size < wr.heap.size ∧ noneOf l j x) (fun i _ => k - (intOf i).toNat)
          case atStart => exact ⟨0, Nat.zero_le _, rfl, hbw, hcell, hsz1, fun j hj => by omega⟩
          case round =>
            obtain ⟨j, hj, rfl, hbw2, hcell2, hsz2, hno⟩ := hrel
            have Hno := Lib.hid hno; clear hno
            by_cases hjk : j < k
            · have hcj : wr.cell? ⟨b, off + j, none⟩ = some (.string (l.getD j ByteArray.empty)) := by rw [hbw2.cell (p := ⟨b, off + j, none⟩) hb]; exact Hc.out j (by omega)
              have hck2 : wr.cell? ⟨b, off + k, none⟩ = some (.string x) := by rw [hbw2.cell (p := ⟨b, off + k, none⟩) hb, Hc.out k hlt, Hx.out]
              generalize hy : l.getD j ByteArray.empty = y at hcj
              have Hy := Lib.hid hy; clear hy
              go_wp2
              go_quiet (fail)
              go_wp2
              · have heq := (Lib.bytes_beq_iff y x).1 ‹_›
                go_ret
                exact ⟨ret_int (by rw [Heq.out, Hstep.out, someOf_contains l k j x hk hjk (by rw [Hy.out, heq])]; simp [Fs.errOf]), below_drewN hbw2 _⟩
              · have hne := (Lib.bytes_beq_false_iff y x).1 ‹_›
                go_roundw
                case rel =>
                  refine ⟨j + 1, by omega, by go_num, below_drewN hbw2 _, hcell2, hsz2, fun i hi => ?_⟩
                  rcases Nat.lt_or_ge i j with h | h
                  · exact Hno.out i h
                  · obtain rfl : i = j := by omega
                    rw [Hy.out]
                    exact fun e => hne (bytes_ext e)
                case measure => simp [intOf]; omega
            · obtain rfl : j = k := by omega
              go_wp2
              go_roundw
              case rel => exact ⟨j + 1, by omega, by go_num, hbw2, hcell2, hsz2, by rw [Heq.out, Hstep.out, hnm, noneOf_contains l j x hk Hno.out]; rfl⟩
              case measure => simp [intOf]; omega
        · have hnm' : Fs.nameOk x.data.toList = false := by simpa using hnm
          clear hnm
          go_wp2_with (go_at_call 116; refine (ref_upper _ _ (by omega)).mono ?_; rintro e w1 ⟨rfl, rfl⟩)
          go_ret
          exact ⟨ret_int (by rw [Heq.out, Hstep.out, hnm']; rfl), hbw⟩
      · have hkk : k = l.length := by omega
        have hend : Fs.namesOk [] L = true := by
          rw [Heq.out, hkk, List.drop_eq_nil_of_le (by rw [← HL.out]; simp)]; rfl
        have Hend := Lib.hid hend; clear hend
        go_wp2
        go_ret
        exact ⟨ret_int (by rw [Hend.out]; rfl), hbw⟩

set_option maxHeartbeats 1600000 in
theorem ref_Check_bad (lo hi : Int) (A : Option Addr) (n c : Nat) (week : Bool) (w : World) (h1 : -9223372036854775808 ≤ lo) (h2 : lo ≤ 9223372036854775807) (h3 : -9223372036854775808 ≤ hi) (h4 : hi ≤ 9223372036854775807)
    (hn : n ≤ 1000) (hr : Fs.boundsOk lo hi n week = false) :
    Calls Tryz.prog 77 #[.agg #[.int .i64 lo, .int .i64 hi, .slice A n c, .bool week]] w fun e w' => e = .returned (.int .i64 2) ∧ Below w.heap.size w w' := by
  unfold Fs.boundsOk at hr
  by_cases a1 : 0 ≤ lo
  case' neg => clear hr
  case' pos =>
    by_cases a2 : lo ≤ hi
    case' neg => clear hr
    case' pos =>
      by_cases a3 : hi ≤ 62
      case' neg => clear hr
      case' pos =>
        cases week
        case' false =>
          have a4 : ¬ n = 0 := by rintro rfl; simp [a1, a2, a3] at hr
          have a5 : ((n : Int) != hi - lo + 1) = true := by
            rw [bne_iff_ne]; intro h
            simp [a1, a2, a3, h] at hr
          have a6 : 0 < n := by omega
          clear hr a4
        case' true =>
          by_cases b1 : lo = 0
          case' neg =>
            have b2 : (lo != 0) = true := by rw [bne_iff_ne]; exact b1
            clear hr b1
          case' pos =>
            subst b1
            by_cases b3 : hi = 6
            case' neg =>
              have b4 : (hi != 6) = true := by rw [bne_iff_ne]; exact b3
              clear hr b3
            case' pos =>
              subst b3
              have a4 : ¬ n = 0 := by rintro rfl; simp at hr
              have a5 : ((n : Int) != 7) = true := by
                rw [bne_iff_ne]; intro h
                have h' : n = 7 := by omega
                subst h'; simp at hr
              have a6 : 0 < n := by omega
              clear hr a4
  all_goals
    go_enter Tryz.func77, Tryz.ntmps77
    go_wp2
    go_ret
    exact ⟨rfl, (Below.refl _ _).alloc (Nat.le_refl _) _⟩


set_option maxHeartbeats 1600000 in
theorem ref_Check_none (lo hi : Int) (A : Option Addr) (c : Nat) (week : Bool) (w : World) (hlo : 0 ≤ lo) (hlh : lo ≤ hi) (hhi : hi ≤ 62) (hwk : week = true → lo = 0 ∧ hi = 6) :
    Calls Tryz.prog 77 #[.agg #[.int .i64 lo, .int .i64 hi, .slice A 0 c, .bool week]] w fun e w' => e = .returned (.int .i64 0) ∧ Below w.heap.size w w' := by
  cases week
  case' false =>
    clear hwk
    go_enter Tryz.func77, Tryz.ntmps77
    go_wp2
  case' true =>
    obtain ⟨rfl, rfl⟩ := hwk rfl
    clear hwk
    go_enter Tryz.func77, Tryz.ntmps77
    go_wp2
  all_goals
    go_loop [3] (fun i => i = .int .i64 0) (fun _ => 0)
    case atStart => rfl
    case round =>
      obtain rfl := hrel
      go_wp2
      go_ret
      exact ⟨rfl, (Below.refl _ _).alloc (Nat.le_refl _) _⟩

/-- Check, of the document's text. -/
theorem ref_Check (lo hi : Int) (A : Option Addr) (c : Nat) (l : List ByteArray) (week : Bool) (w : World) (h1 : -9223372036854775808 ≤ lo) (h2 : lo ≤ 9223372036854775807) (h3 : -9223372036854775808 ≤ hi) (h4 : hi ≤ 9223372036854775807)
    (hn : l.length ≤ 1000) (hcc : l.length ≤ c) (hA : Names w w.heap.size A l) (hsz : ∀ s ∈ l, s.size ≤ 1000) :
    Calls Tryz.prog 77 #[.agg #[.int .i64 lo, .int .i64 hi, .slice A l.length c, .bool week]] w fun e w' => e = .returned (.int .i64 (Fs.errOf (Fs.checkB (kind lo hi l week)))) ∧ Below w.heap.size w w' := by
  rw [kind_check]
  by_cases hb : Fs.boundsOk lo hi l.length week = true
  · obtain ⟨a1, a2, a3, a4, a5⟩ := bounds_of _ _ _ _ hb
    rw [hb, Bool.true_and]
    rcases hA with rfl | ⟨b, off, rfl, hlt, hc⟩
    · exact ref_Check_none lo hi A c week w a1 a2 a3 a4
    · by_cases h0 : l = []
      · subst h0
        exact ref_Check_none lo hi _ c week w a1 a2 a3 a4
      · have h0' : 0 < l.length := List.length_pos_iff.2 h0
        exact ref_Check_loop lo hi b off c l week w hn a1 a2 a3 a4 h0' (by omega) hcc hlt hc hsz
  · have hb' : Fs.boundsOk lo hi l.length week = false := by simpa using hb
    rw [hb', Bool.false_and]
    exact ref_Check_bad lo hi A l.length c week w h1 h2 h3 h4 hn hb'

end Go.Proofs.YtjnlgaeedcklaaaGreatDoor
