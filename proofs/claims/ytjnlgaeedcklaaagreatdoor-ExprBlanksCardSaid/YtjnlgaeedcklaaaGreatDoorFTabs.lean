/-
  The program's reader: a block that is known whole, and what the small methods do with it.
  The library's tables and variables that the walks read, as they lie when the call begins; and Atoi at a text of at most two digits.
-/
import Derived.Test.YtjnlgaeedcklaaaGreatDoorFRef2
import Derived.Test.YtjnlgaeedcklaaaGreatDoorFBase
import Derived.Laws.OwnMore
import Derived.Laws.Rows
import Derived.Below
import Derived.Lib.AtoiErrMem
set_option linter.unusedVariables false
set_option linter.unusedSimpArgs false
namespace Go.Proofs.YtjnlgaeedcklaaaGreatDoor
open Go.RowKit

/-- A part of an item, in the program's form. -/
def cellP : Fs.Part → List Value
  | some (n, a) => [.int .i64 n, .int .i64 a, .bool true]
  | none => [.int .i64 0, .int .i64 0, .bool false]

def cellsP (x : Fs.Item) : List Value := [.bool x.star] ++ cellP x.lo ++ cellP x.hi ++ cellP x.step

/-- The reader's block: the kind, the text, the next byte, the item, the items, and what is read next. -/
def rdc (lo hi : Int) (nm : Value) (week : Bool) (s : ByteArray) (at_ : Nat) (it : Fs.Item) (ls : Value) (bad : Bool) (th : Value) : Array Value :=
  ([.int .i64 lo, .int .i64 hi, nm, .bool week, .string s, .int .i64 at_] ++ cellsP it ++ [ls, .bool bad, th]).toArray

theorem byte_three (s : ByteArray) (k : Nat) (c : UInt8) (hk : k ≤ s.size) :
    (Fs.byteAt s.data.toList k c = true ∧ ∃ h : k < s.size, ((s[k].toNat : Int) == (c.toNat : Int)) = true) ∨
    (Fs.byteAt s.data.toList k c = false ∧ ∃ h : k < s.size, ((s[k].toNat : Int) == (c.toNat : Int)) = false) ∨
    (Fs.byteAt s.data.toList k c = false ∧ ¬ k < s.size ∧ k = s.size) := by
  by_cases h : k < s.size
  · have hg := getElem_data s k h
    by_cases hc : s[k] = c
    · exact .inl ⟨by rw [Fs.byteAt, hg, hc]; simp, h, by rw [hc]; simp⟩
    · refine .inr (.inl ⟨by rw [Fs.byteAt, hg]; simpa using hc, h, ?_⟩)
      rw [beq_eq_false_iff_ne]
      intro e
      exact hc (UInt8.toNat_inj.1 (by omega))
  · refine .inr (.inr ⟨?_, h, by omega⟩)
    rw [Fs.byteAt, List.getElem?_eq_none (by rw [← Lib.size_eq]; omega)]
    rfl

theorem rd_next_yes (g : Nat) (c : UInt8) (w : World) (lo hi : Int) (nm : Value) (week : Bool) (s : ByteArray) (k : Nat) (x0 x1 x2 x3 x4 x5 x6 x7 x8 x9 : Value) (ls b th : Value) (hs : s.size ≤ 100000) (hk : k ≤ s.size)
    (hq : Fs.byteAt s.data.toList k c = true) (hB : Blk w g 124 #[.int .i64 lo, .int .i64 hi, nm, .bool week, .string s, .int .i64 k, x0, x1, x2, x3, x4, x5, x6, x7, x8, x9, ls, b, th]) :
    Calls Tryz.prog 100 #[.pointer (some ⟨g, 0, none⟩), .int .u8 c.toNat] w fun e w' =>
      e = .returned (.bool true) ∧ Kg g w w' ∧ Blk w' g 124 #[.int .i64 lo, .int .i64 hi, nm, .bool week, .string s, .int .i64 (k + 1 : Nat), x0, x1, x2, x3, x4, x5, x6, x7, x8, x9, ls, b, th] := by
  have HB := Lib.hid hB
  obtain ⟨hc, hf⟩ := hB.facts
  clear hB
  rcases byte_three s k c hk with ⟨hq', hp, hb⟩ | ⟨hq', hp, hb⟩ | ⟨hq', hp, hz⟩
  · clear hq hq'
    go_enter Tryz.func100, Tryz.ntmps100
    go_wp2
    go_quiet (fail)
    go_wp2
    go_ret
    exact ⟨rfl, Kg.set_ ((Kp.refl _ _).drewN _) _ _, (HB.out.drewN nq).set_ 5 _⟩
  · rw [hq] at hq'; cases hq'
  · rw [hq] at hq'; cases hq'

theorem rd_next_no (g : Nat) (c : UInt8) (w : World) (lo hi : Int) (nm : Value) (week : Bool) (s : ByteArray) (k : Nat) (x0 x1 x2 x3 x4 x5 x6 x7 x8 x9 : Value) (ls b th : Value) (hs : s.size ≤ 100000) (hk : k ≤ s.size)
    (hq : Fs.byteAt s.data.toList k c = false) (hB : Blk w g 124 #[.int .i64 lo, .int .i64 hi, nm, .bool week, .string s, .int .i64 k, x0, x1, x2, x3, x4, x5, x6, x7, x8, x9, ls, b, th]) :
    Calls Tryz.prog 100 #[.pointer (some ⟨g, 0, none⟩), .int .u8 c.toNat] w fun e w' =>
      e = .returned (.bool false) ∧ Kg g w w' ∧ Blk w' g 124 #[.int .i64 lo, .int .i64 hi, nm, .bool week, .string s, .int .i64 k, x0, x1, x2, x3, x4, x5, x6, x7, x8, x9, ls, b, th] := by
  have HB := Lib.hid hB
  obtain ⟨hc, hf⟩ := hB.facts
  clear hB
  rcases byte_three s k c hk with ⟨hq', hp, hb⟩ | ⟨hq', hp, hb⟩ | ⟨hq', hp, hz⟩
  · rw [hq] at hq'; cases hq'
  · clear hq hq'
    go_enter Tryz.func100, Tryz.ntmps100
    go_wp2
    go_quiet (fail)
    go_wp2
    go_ret
    exact ⟨rfl, (Kp.refl _ _).drewN _, HB.out.drewN nq⟩
  · clear hq hq' hz
    go_enter Tryz.func100, Tryz.ntmps100
    go_wp2
    go_quiet (fail)
    go_wp2
    go_ret
    exact ⟨rfl, (Kp.refl _ _).drewN _, HB.out.drewN nq⟩

/-- fail ends reading at a place. -/
theorem rd_fail (g : Nat) (w : World) (lo hi : Int) (nm : Value) (week : Bool) (s : ByteArray) (k : Nat) (a : Int) (x0 x1 x2 x3 x4 x5 x6 x7 x8 x9 : Value) (ls b th : Value) (hB : Blk w g 124 #[.int .i64 lo, .int .i64 hi, nm, .bool week, .string s, .int .i64 k, x0, x1, x2, x3, x4, x5, x6, x7, x8, x9, ls, b, th]) :
    Calls Tryz.prog 103 #[.pointer (some ⟨g, 0, none⟩), .int .i64 a] w fun e w' =>
      e = .returned .nilFunc ∧ Kg g w w' ∧ Blk w' g 124 #[.int .i64 lo, .int .i64 hi, nm, .bool week, .string s, .int .i64 a, x0, x1, x2, x3, x4, x5, x6, x7, x8, x9, ls, .bool true, th] := by
  have HB := Lib.hid hB
  obtain ⟨hc, hf⟩ := hB.facts
  clear hB
  go_enter Tryz.func103, Tryz.ntmps103
  go_wp2
  go_ret
  exact ⟨rfl, Kg.set_ (Kg.set_ (Kp.refl _ _) _ _) _ _, (HB.out.set_ 5 _).set_ 17 _⟩

end Go.Proofs.YtjnlgaeedcklaaaGreatDoor

namespace Go.Proofs.YtjnlgaeedcklaaaGreatDoor
open Go.RowKit

structure Tabs (w : World) : Prop where
  size : 12 ≤ w.heap.size
  tz : TabAt 3 Lib.deBruijn64tab w
  err : ∃ tp p, w.var? Tryz.prog "strconv.ErrSyntax" = some #[.iface tp p]
  space : Lib.TabIs Tryz.prog w "strings.asciiSpace" .u8 Lib.asciiSpaceTab

theorem named_err : Tryz.prog.globalNamed "strconv.ErrSyntax" = some 9 := by kernel_rfl
theorem named_space : Tryz.prog.globalNamed "strings.asciiSpace" = some 1 := by kernel_rfl

theorem var_same {w w' : World} {n : String} {g : Nat} {cs : Array Value} (hg : Tryz.prog.globalNamed n = some g) (h : w'.heap[g]? = w.heap[g]?) (hv : w.var? Tryz.prog n = some cs) : w'.var? Tryz.prog n = some cs := by
  unfold World.var? at hv ⊢
  simp only [hg, Option.bind_some] at hv ⊢
  rw [h]; exact hv

theorem Tabs.of_heap {w w' : World} (h : Tabs w) (hs : w.heap.size ≤ w'.heap.size) (hh : ∀ i, i < 12 → w'.heap[i]? = w.heap[i]?) : Tabs w' := by
  obtain ⟨h0, h1, ⟨tp, p, h2⟩, h3⟩ := h
  refine ⟨by omega, fun j hj => ?_, ⟨tp, p, var_same named_err (hh _ (by omega)) h2⟩, var_same named_space (hh _ (by omega)) h3⟩
  rw [World.cell?_of_block (a := ⟨3, j, none⟩) (hh _ (by simp))]
  exact h1 j hj
theorem Tabs.below {w w' : World} {B : Nat} (h : Tabs w) (hb : Below B w w') (hB : 12 ≤ B) : Tabs w' := h.of_heap hb.size fun i hi => hb.block i (by omega)
theorem Tabs.grow {w w' : World} (h : Tabs w) (hb : Below w.heap.size w w') : Tabs w' := h.below hb h.size
theorem Tabs.kp {w w' : World} {S : Nat → Prop} (h : Tabs w) (hb : Kp S w w') (hS : ∀ i, S i → 12 ≤ i) : Tabs w' := h.of_heap hb.size fun i hi => hb.block i (by have := h.size; omega) (fun k => by have := hS i k; omega)
theorem Tabs.drewN {w : World} (h : Tabs w) (n : Nat) : Tabs (w.drewN n) := h.of_heap (Nat.le_refl _) fun _ _ => rfl
theorem Tabs.drew {w : World} (h : Tabs w) : Tabs w.drew := h.of_heap (Nat.le_refl _) fun _ _ => rfl
theorem Tabs.alloc {w : World} (h : Tabs w) (o : Obj) : Tabs (w.alloc o) := h.grow ((Below.refl _ _).alloc (Nat.le_refl _) _)

theorem digitVal_of {a : UInt8} (h : Fs.digitB a = true) : Lib.digitVal a = some (a.toNat - 48) ∧ (a == 45) = false ∧ (a == 43) = false := by
  have hb := Fs.digit_bd h
  refine ⟨by rw [Lib.digitVal, if_pos hb], ?_, ?_⟩
  · rw [beq_eq_false_iff_ne]; rintro rfl; simp at hb
  · rw [beq_eq_false_iff_ne]; rintro rfl; simp at hb
theorem atoi_digits (t : List UInt8) (h1 : 1 ≤ t.length) (h2 : t.length ≤ 2) (hd : t.all Fs.digitB = true) : Lib.atoi t = some (Fs.numOf t : Int) := by
  rcases t with _ | ⟨a, _ | ⟨b, _ | ⟨c, t⟩⟩⟩
  · simp at h1
  · simp only [List.all_cons, List.all_nil, Bool.and_true] at hd
    obtain ⟨e1, e2, e3⟩ := digitVal_of hd
    simp [Lib.atoi, e1, e2, e3, Lib.decNat, Lib.decFrom, Fs.numOf]
  · simp only [List.all_cons, List.all_nil, Bool.and_true, Bool.and_eq_true] at hd
    obtain ⟨e1, e2, e3⟩ := digitVal_of hd.1
    obtain ⟨f1, _, _⟩ := digitVal_of hd.2
    simp [Lib.atoi, e1, e2, e3, f1, Lib.decNat, Lib.decFrom, Fs.numOf]
  · simp at h2

theorem rd_atoi (t : ByteArray) (w : World) (h2 : t.size ≤ 2) (hd : t.data.toList.all Fs.digitB = true) (hT : Tabs w) :
    Calls Tryz.prog 154 #[.string t] w fun e w' => (∃ v, e = .returned (.tuple #[.int .i64 (Fs.numOf t.data.toList), v])) ∧ Below w.heap.size w w' := by
  by_cases h0 : t.data.toList = []
  · obtain ⟨tp, p, hv⟩ := hT.err
    refine (Tryz.strconv_Atoi_err_var t (by omega) (by rw [h0]; rfl) tp p w hv).mono ?_
    rintro e w' ⟨N, rfl, _, _, hb⟩
    exact ⟨⟨_, by rw [h0]; rfl⟩, hb⟩
  · refine (Tryz.strconv_Atoi t _ (by omega) (atoi_digits _ ?_ (by rw [← Lib.size_eq]; exact h2) hd) w).mono ?_
    · exact Nat.pos_of_ne_zero (fun h => h0 (List.length_eq_zero_iff.1 h))
    · rintro e w' ⟨rfl, t', rfl⟩
      exact ⟨⟨_, rfl⟩, Lib.bytesWorld_below _ _ _⟩

end Go.Proofs.YtjnlgaeedcklaaaGreatDoor
