/-
  The program's words: the iterator that words makes.
-/
import Derived.RangeFuncNested
import Derived.RangeFuncBound
import Derived.RangeFuncCalls
import Derived.RangeFuncLeaves
import Derived.Shelf.Abstract
import Derived.Shelf.RegionOpen
import Derived.OwnWalkIn
import Derived.TacticsInMore
import Derived.LoopNIn
import Derived.LoopIn
import Derived.Test.YtjnlgaeedcklaaaGreatDoorXIndex
import Derived.Test.YtjnlgaeedcklaaaGreatDoorXPlain4
set_option linter.unusedVariables false
set_option linter.unusedSimpArgs false
namespace Go.Proofs.YtjnlgaeedcklaaaGreatDoor
open Go.RowKit Go.Shelf
attribute [local go_sem] Oper.semAt_some

/-- A word of a text of n bytes, with its place. -/
abbrev Wd (n : Nat) := { q : Nat × ByteArray // 0 < q.2.size ∧ q.1 + q.2.size ≤ n }
def encW {n : Nat} (x : Wd n) : Nat × List UInt8 := (x.1.1, x.1.2.data.toList)

/-- The block b is as it was; there may be new blocks. -/
def Kb (b : Nat) (W W' : World) : Prop := W.heap.size ≤ W'.heap.size ∧ W'.heap[b]? = W.heap[b]?
theorem Kb.refl (b : Nat) (W : World) : Kb b W W := ⟨Nat.le_refl _, rfl⟩
theorem Kb.trans {b : Nat} {A B C : World} (h : Kb b A B) (k : Kb b B C) : Kb b A C := ⟨Nat.le_trans h.1 k.1, k.2.trans h.2⟩
theorem Kb.below {b B : Nat} {A C : World} (h : Below B A C) (hb : b < B) : Kb b A C := ⟨h.size, h.block b hb⟩
theorem Blk.kb {w w' : World} {g : Nat} {t : TypeId} {cs : Array Value} (h : Blk w g t cs) (k : Kb g w w') : Blk w' g t cs := k.2.trans h
theorem abides_below {α : Type} {B : Nat} {J : List α → World → Prop} (h : AbidesFrom B J) {s : List α} {W W' : World} (hs : J s W) (hb : Below W.heap.size W W') : J s W' :=
  h s W W' none hs ⟨hb.os, hb.tape, hb.output, hb.size, fun i hi _ => hb.block i hi⟩ (fun r e => by cases e)

theorem expr_words (s : ByteArray) (w : World) : Calls Tryz.prog 40 #[.string s] w fun e w' =>
    e = .returned (.func (.func 71) #[] #[.pointer (some ⟨w.heap.size, 0, none⟩)]) ∧ w' = w.alloc (.cells #[.string s] 9) := by
  have hmf : ∀ (fn : Fn) (first cap : Array Value) (w : World), (Instr.makeFunc fn first cap).run Tryz.prog w = .ok (.func fn first cap) w := fun _ _ _ _ => rfl
  go_enter Tryz.func40, Tryz.ntmps40
  go_wp2
  go_ret
  exact ⟨rfl, rfl⟩

/-- What is read of the text when the loop of words stands at the place k: the words so far, and those to come. -/
def WdAt (l : List UInt8) (k : Nat) (pre : List (Nat × List UInt8)) : Prop := k ≤ l.length ∧ Xs.words l = pre ++ Xs.cut (l.drop k) k k []
theorem WdAt.start (l : List UInt8) : WdAt l 0 [] := ⟨Nat.zero_le _, by simp [Xs.words]⟩
theorem WdAt.done {l : List UInt8} {k : Nat} {pre : List (Nat × List UInt8)} (h : WdAt l k pre) (ha : Xs.af (l.drop k) = []) : pre = Xs.words l := by
  rw [h.2, Xs.cut_next, if_pos ha, List.append_nil]
theorem WdAt.pre {l : List UInt8} {k : Nat} {pre : List (Nat × List UInt8)} (h : WdAt l k pre) (ha : Xs.af (l.drop k) ≠ []) : pre ++ [(l.length - (Xs.af (l.drop k)).length, Xs.wd (l.drop k))] <+: Xs.words l := by
  have hl := Xs.af_len (l.drop k)
  rw [List.length_drop] at hl
  have hk := h.1
  rw [h.2, Xs.cut_next, if_neg ha, List.length_drop, show k + (l.length - k - (Xs.af (l.drop k)).length) = l.length - (Xs.af (l.drop k)).length from by omega]
  exact ⟨Xs.cut (Xs.rs (l.drop k)) _ _ [], by rw [List.append_assoc]; rfl⟩
theorem WdAt.next {l : List UInt8} {k : Nat} {pre : List (Nat × List UInt8)} (h : WdAt l k pre) (ha : Xs.af (l.drop k) ≠ []) :
    WdAt l (l.length - (Xs.af (l.drop k)).length + (Xs.wd (l.drop k)).length) (pre ++ [(l.length - (Xs.af (l.drop k)).length, Xs.wd (l.drop k))]) := by
  have hl := Xs.af_len (l.drop k)
  have hw := Xs.wd_len (l.drop k)
  rw [List.length_drop] at hl
  have hk := h.1
  refine ⟨by omega, ?_⟩
  rw [h.2, Xs.cut_next, if_neg ha, List.append_assoc, List.length_drop, show k + (l.length - k - (Xs.af (l.drop k)).length) = l.length - (Xs.af (l.drop k)).length from by omega]
  congr 1
  rw [List.singleton_append]
  congr 1
  congr 1
  have e1 := Xs.af_split (l.drop k)
  have e2 := Xs.wd_split (l.drop k)
  have : l.drop k = (l.drop k).takeWhile Xs.blank ++ Xs.wd (l.drop k) ++ Xs.rs (l.drop k) := by rw [List.append_assoc, ← e2, ← e1]
  have h2 : l.drop (l.length - (Xs.af (l.drop k)).length + (Xs.wd (l.drop k)).length) = (l.drop k).drop (((l.drop k).takeWhile Xs.blank ++ Xs.wd (l.drop k)).length) := by
    rw [List.drop_drop, List.length_append]
    congr 1
    omega
  rw [h2]
  have key : ∀ a b r m : List UInt8, m = a ++ b ++ r → r = m.drop (a ++ b).length := by
    rintro a b r _ rfl
    rw [List.drop_left]
  exact key _ _ _ _ this

theorem slice_data (s : ByteArray) (k : Nat) : (s.extract k s.size).data.toList = s.data.toList.drop k := by
  rw [Lib.extract_to_end]
theorem take_wd (l : List UInt8) : (Xs.af l).take (Xs.wd l).length = Xs.wd l := by
  conv => lhs; rw [Xs.wd_split l]
  rw [List.take_left]

/-- What the loop of words reads of the text from the place k on. -/
structure Rest (s : ByteArray) (k : Nat) (R : ByteArray) : Prop where
  data : R.data.toList = Xs.af (s.data.toList.drop k)
  le : R.size + k ≤ s.size
theorem rest_of (s : ByteArray) (k : Nat) (hk : k ≤ s.size) : Rest s k ⟨(Xs.af (s.data.toList.drop k)).toArray⟩ := by
  refine ⟨rfl, ?_⟩
  have h := Xs.af_len (s.data.toList.drop k)
  rw [List.length_drop, ← Lib.size_eq] at h
  show (Xs.af (s.data.toList.drop k)).toArray.size + k ≤ s.size
  rw [List.size_toArray]; omega

set_option maxRecDepth 100000 in
set_option maxHeartbeats 4000000 in
theorem words1_in (n : Nat) (hn : 1 ≤ n) (l bs : Nat) (s : ByteArray) (hs : s.size ≤ 100000) (J Jx : List (Wd s.size) → World → Prop) (W : World) (hJ : AbidesFrom W.heap.size J)
    (hY : ∀ pre x W1, J pre W1 → pre.length < 100001 → YieldAt Fence.wide (n - 1) Tryz.prog l #[.int .i64 (x : Wd s.size).1.1, .string x.1.2] W1 fun e W' =>
      (e = .returned (.bool true) ∧ J (pre ++ [x]) W' ∧ Kb bs W1 W') ∨ (e = .returned (.bool false) ∧ Jx (pre ++ [x]) W'))
    (hB : Blk W bs 9 #[.string s]) (h0 : J [] W) :
    CallsIn Fence.wide n Tryz.prog 71 #[.func (.yield l) #[] #[], .pointer (some ⟨bs, 0, none⟩)] W fun e W' => (∃ v, e = .returned v) ∧
      ((∃ ys : List (Wd s.size), ys.map encW = Xs.words s.data.toList ∧ J ys W') ∨ (∃ pre : List (Wd s.size), pre.map encW <+: Xs.words s.data.toList ∧ Jx pre W')) := by
  have HB := Lib.hid hB
  clear hB
  refine callsIn_of_wp Tryz.func71 rfl trivial ?_ rfl
  simp only [Tryz.ntmps71, List.size_toArray, List.length_cons, List.length_nil, Nat.reduceAdd, Nat.reduceSub, Array.replicate_succ, Array.replicate_zero, List.push_toArray, List.append_toArray, List.nil_append, List.cons_append]
  gi_wp2
  gi_loopw [3] (fun v wr => ∃ (pre : List (Wd s.size)) (k : Nat), v = .int .i64 k ∧ k ≤ s.size ∧ pre.length ≤ k ∧ WdAt s.data.toList k (pre.map encW) ∧ J pre wr ∧ Kb bs W wr) (fun v _ => s.size - (intOf v).toNat)
  case atStart => exact ⟨[], 0, rfl, Nat.zero_le _, Nat.le_refl _, WdAt.start _, h0, Kb.refl _ _⟩
  case round =>
    obtain ⟨pre, k, rfl, hk, hpl, hat, hj, hkb⟩ := hrel
    have Hat := Lib.hid hat
    have Hj := Lib.hid hj
    have Hk := Lib.hid hkb
    have HBr := Lib.hid (HB.out.kb hkb)
    obtain ⟨hc, hf⟩ := HBr.out.facts
    have hlt := HBr.out.lt
    clear hat hj hkb
    by_cases hle : k < s.size
    · have HTL : Hid (∀ W, Calls Tryz.prog 72 #[.string (s.extract k s.size), .string { data := #[32, 9] }] W fun e w' => e = .returned (.string ⟨(Xs.af (s.data.toList.drop k)).toArray⟩) ∧ Below W.heap.size W w') := Lib.hid fun W => by
        have := trim_left (s.extract k s.size) W
        rw [slice_data, Xs.trim_af] at this
        exact this
      have hR := rest_of s k hk
      generalize hRR : (⟨(Xs.af (s.data.toList.drop k)).toArray⟩ : ByteArray) = R at HTL hR
      have HR := Lib.hid hR
      obtain ⟨hR1, hR2⟩ := hR
      by_cases ha : Xs.af (s.data.toList.drop k) = []
      · have he : R.toList.isEmpty = true := by rw [ByteArray.toList_eq, hR1, ha]; rfl
        have hend := Hat.out.done ha
        have Hend := Lib.hid hend; clear hend
        clear hR1 ha
        gi_wp2_with (refine ⟨trivial, ?_⟩; gi_at_call 72; (with_reducible refine (callsIn_wide.2 (HTL.out _)).mono ?_); rintro e w2 ⟨rfl, hb2⟩; obtain ⟨hc2, hf2⟩ := bcell hb2)
        refine bodyPost_ret (results_none rfl _ _ _) rfl ?_
        exact ⟨⟨_, rfl⟩, .inl ⟨pre, Hend.out, abides_below hJ Hj.out hb2⟩⟩
      · obtain ⟨V, hV⟩ : ∃ V, V = Xs.wd (s.data.toList.drop k) := ⟨_, rfl⟩
        have hpre := Hat.out.pre ha
        have hnext := Hat.out.next ha
        have hidx := Xs.index_wd (s.data.toList.drop k)
        have hwl := Xs.wd_len (s.data.toList.drop k)
        have hwn := Xs.wd_ne ha
        have htk := take_wd (s.data.toList.drop k)
        have hrl : Xs.rs (s.data.toList.drop k) = [] ↔ (Xs.rs (s.data.toList.drop k)).length = 0 := List.length_eq_zero_iff.symm
        rw [← hR1] at hpre hnext hidx hwl htk
        rw [← hV] at hpre hnext hidx hwl hwn htk
        have he : R.toList.isEmpty = false := by
          rw [ByteArray.toList_eq, hR1]
          cases h : Xs.af (s.data.toList.drop k) with
          | nil => exact absurd h ha
          | cons _ _ => rfl
        have hRl : R.data.toList.length = R.size := (Lib.size_eq R).symm
        have hsl : s.data.toList.length = s.size := (Lib.size_eq s).symm
        have hV0 : 0 < V.length := List.length_pos_iff.2 hwn
        rw [hRl] at hpre hnext hwl
        rw [hsl] at hpre hnext
        have HTI : Hid (∀ W, Calls Tryz.prog 61 #[.string R, .string { data := #[32, 9] }] W fun e w' => e = .returned (.int .i64 (if Xs.rs (s.data.toList.drop k) = [] then -1 else (V.length : Int))) ∧ Below W.heap.size W w') := Lib.hid fun W => by
          have := index_blank R W (by omega)
          rw [hidx] at this
          exact this
        clear hidx hwn
        have Hpre := Lib.hid hpre
        have Hnext := Lib.hid hnext
        have Htk := Lib.hid htk
        have HVV := Lib.hid hV
        clear hpre hnext htk hR1 ha hV
        by_cases hr : Xs.rs (s.data.toList.drop k) = []
        · have hRV : R.size = V.length := by have := hrl.1 hr; omega
          have HTI2 : Hid (∀ W, Calls Tryz.prog 61 #[.string R, .string { data := #[32, 9] }] W fun e w' => e = .returned (.int .i64 (-1)) ∧ Below W.heap.size W w') := Lib.hid fun W => by
            have := HTI.out W
            rw [if_pos hr] at this
            exact this
          have HRV := Lib.hid hRV
          clear hr hrl hRV
          gi_wp2_with (first
            | (refine ⟨trivial, ?_⟩; gi_at_call 72; (with_reducible refine (callsIn_wide.2 (HTL.out _)).mono ?_); rintro e w2 ⟨rfl, hb2⟩; obtain ⟨hc2, hf2⟩ := bcell hb2)
            | (refine ⟨trivial, ?_⟩; gi_at_call 61; (with_reducible refine (callsIn_wide.2 (HTI2.out _)).mono ?_); rintro e w3 ⟨rfl, hb3⟩; obtain ⟨hc3, hf3⟩ := bcell hb3
               have hj3 : J pre w3 := abides_below hJ (abides_below hJ Hj.out hb2) hb3
               have hk3 : Kb bs W w3 := Hk.out.trans ((Kb.below hb2 hlt).trans (Kb.below hb3 (Nat.lt_of_lt_of_le hlt hb2.size)))
               obtain ⟨X, hX⟩ : ∃ X : Wd s.size, X.1 = (s.size - R.size, R) := ⟨⟨(s.size - R.size, R), ⟨by show 0 < R.size; have := HRV.out; omega, by show s.size - R.size + R.size ≤ s.size; omega⟩⟩, rfl⟩
               have hX1 : ((X.1.1 : Nat) : Int) = (s.size : Int) - (R.size : Int) := by rw [hX]; show ((s.size - R.size : Nat) : Int) = _; omega
               have hX2 : X.1.2 = R := by rw [hX]
               have hXe : encW X = (s.size - R.size, V) := by
                 unfold encW
                 rw [hX]
                 show (s.size - R.size, (R : ByteArray).data.toList) = _
                 rw [show R.data.toList = V from by rw [← Htk.out, ← HRV.out, ← hRl, List.take_length]]
               obtain ⟨fn, tmps, assign, body, hy, hRnd⟩ := hY pre X w3 hj3 (by omega)
               rw [hX1, hX2] at hy
               have HRnd := Lib.hid hRnd
               have HK3 := Lib.hid hk3
               have HXe := Lib.hid hXe
               clear hj3 hk3 hRnd hX hX1 hX2 hXe hc hf hc2 hf2 hc3 hf3 hb2 hb3))
          refine HRnd.out.mono ?_
          rintro e W4 (⟨rfl, hJ4, hk4⟩ | ⟨rfl, hJx4⟩)
          · have HK4 := Lib.hid (HK3.out.trans hk4)
            have HJ4 := Lib.hid hJ4
            clear hJ4 hk4
            gi_wp2
            go_roundw
            case rel => exact ⟨pre ++ [X], s.size - R.size + V.length, by have := HRV.out; simp; omega, by omega, by simp; omega, by rw [List.map_append, List.map_cons, List.map_nil, HXe.out]; exact Hnext.out, HJ4.out, HK4.out⟩
            case measure => have := HRV.out; simp [intOf]; omega
          · gi_wp2
            refine bodyPost_ret (results_none rfl _ _ _) rfl ?_
            exact ⟨⟨_, rfl⟩, .inr ⟨pre ++ [X], by rw [List.map_append, List.map_cons, List.map_nil, HXe.out]; exact Hpre.out, hJx4⟩⟩
        · have hVR : V.length ≤ R.size := by omega
          have HTI2 : Hid (∀ W, Calls Tryz.prog 61 #[.string R, .string { data := #[32, 9] }] W fun e w' => e = .returned (.int .i64 (V.length : Int)) ∧ Below W.heap.size W w') := Lib.hid fun W => by
            have := HTI.out W
            rw [if_neg hr] at this
            exact this
          clear hr hrl
          gi_wp2_with (first
            | (refine ⟨trivial, ?_⟩; gi_at_call 72; (with_reducible refine (callsIn_wide.2 (HTL.out _)).mono ?_); rintro e w2 ⟨rfl, hb2⟩; obtain ⟨hc2, hf2⟩ := bcell hb2)
            | (refine ⟨trivial, ?_⟩; gi_at_call 61; (with_reducible refine (callsIn_wide.2 (HTI2.out _)).mono ?_); rintro e w3 ⟨rfl, hb3⟩; obtain ⟨hc3, hf3⟩ := bcell hb3
               have hj3 : J pre w3 := abides_below hJ (abides_below hJ Hj.out hb2) hb3
               have hk3 : Kb bs W w3 := Hk.out.trans ((Kb.below hb2 hlt).trans (Kb.below hb3 (Nat.lt_of_lt_of_le hlt hb2.size)))
               obtain ⟨X, hX⟩ : ∃ X : Wd s.size, X.1 = (s.size - R.size, R.extract 0 V.length) := ⟨⟨(s.size - R.size, R.extract 0 V.length), ⟨by rw [ByteArray.size_extract]; omega, by show s.size - R.size + (R.extract 0 V.length).size ≤ s.size; rw [ByteArray.size_extract]; omega⟩⟩, rfl⟩
               have hX1 : ((X.1.1 : Nat) : Int) = (s.size : Int) - (R.size : Int) := by rw [hX]; show ((s.size - R.size : Nat) : Int) = _; omega
               have hX2 : X.1.2 = R.extract 0 V.length := by rw [hX]
               have hXe : encW X = (s.size - R.size, V) := by
                 unfold encW
                 rw [hX]
                 show (s.size - R.size, (R.extract 0 V.length : ByteArray).data.toList) = _
                 rw [show (R.extract 0 V.length).data.toList = V from by rw [Lib.extract_data, List.drop_zero, Nat.sub_zero]; exact Htk.out]
               obtain ⟨fn, tmps, assign, body, hy, hRnd⟩ := hY pre X w3 hj3 (by omega)
               rw [hX1, hX2] at hy
               have HRnd := Lib.hid hRnd
               have HK3 := Lib.hid hk3
               have HXe := Lib.hid hXe
               clear hj3 hk3 hRnd hX hX1 hX2 hXe hc hf hc2 hf2 hc3 hf3 hb2 hb3))
          refine HRnd.out.mono ?_
          rintro e W4 (⟨rfl, hJ4, hk4⟩ | ⟨rfl, hJx4⟩)
          · have HK4 := Lib.hid (HK3.out.trans hk4)
            have HJ4 := Lib.hid hJ4
            clear hJ4 hk4
            gi_wp2
            go_roundw
            case rel => exact ⟨pre ++ [X], s.size - R.size + V.length, by have h : ((s.size - R.size + V.length : Nat) : Int) = (s.size : Int) - R.size + V.length := (by omega); rw [h], by omega, by simp; omega, by rw [List.map_append, List.map_cons, List.map_nil, HXe.out]; exact Hnext.out, HJ4.out, HK4.out⟩
            case measure => simp [intOf]; omega
          · gi_wp2
            refine bodyPost_ret (results_none rfl _ _ _) rfl ?_
            exact ⟨⟨_, rfl⟩, .inr ⟨pre ++ [X], by rw [List.map_append, List.map_cons, List.map_nil, HXe.out]; exact Hpre.out, hJx4⟩⟩
    · have hend := Hat.out.done (by rw [List.drop_eq_nil_of_le (by rw [← Lib.size_eq]; omega)]; rfl)
      have Hend := Lib.hid hend; clear hend
      gi_wp2
      go_end0
      exact ⟨⟨_, rfl⟩, .inl ⟨pre, Hend.out, Hj.out⟩⟩

/-- The iterator that words makes. -/
theorem words_stops (n : Nat) (hn : 1 ≤ n) (bs : Nat) (s : ByteArray) (hs : s.size ≤ 100000) (w : World) (hB : Blk w bs 9 #[.string s]) :
    SeqStopsK Fence.wide n Tryz.prog 71 #[.pointer (some ⟨bs, 0, none⟩)] (fun x : Wd s.size => #[.int .i64 x.1.1, .string x.1.2]) (Kb bs)
      (fun ys => ys.map encW = Xs.words s.data.toList) (fun pre => pre.map encW <+: Xs.words s.data.toList) 100001 w := fun l J Jx W hW hJ _ hY h0 =>
  words1_in n hn l bs s hs J Jx W hJ hY (hB.below hW hB.lt) h0
end Go.Proofs.YtjnlgaeedcklaaaGreatDoor
