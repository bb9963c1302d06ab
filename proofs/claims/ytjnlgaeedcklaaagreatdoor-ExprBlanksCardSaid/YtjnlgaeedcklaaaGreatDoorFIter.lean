/-
  The program's text: the iterator over the numbers of an item.
-/
import Derived.RangeFuncNested
import Derived.RangeFuncBound
import Derived.RangeFuncCalls
import Derived.RangeFuncLeaves
import Derived.Shelf.Abstract
import Derived.Shelf.RegionOpen
import Derived.OwnWalkIn
import Derived.TacticsInMore
import Derived.LoopNIn
import Derived.LoopIn
import Derived.Test.YtjnlgaeedcklaaaGreatDoorFNums
set_option linter.unusedVariables false
set_option linter.unusedSimpArgs false
namespace Go.Proofs.YtjnlgaeedcklaaaGreatDoor
open Go.RowKit Go.Shelf
attribute [local go_sem] Oper.semAt_some

/-- The numbers that an item yields. -/
def numsOf (week : Bool) (hi st : Nat) : Nat → Nat → List Nat
  | 0, _ => []
  | f + 1, n => if n ≤ hi then (if week then n % 7 else n) :: numsOf week hi st f (n + st) else []

theorem setFrom_nums (week : Bool) (hi st : Nat) : ∀ (f n s : Nat), Fs.setFrom week hi st f n s = (numsOf week hi st f n).foldl (fun s x => s ||| 2 ^ x) s := by
  intro f
  induction f with
  | zero => intro n s; rfl
  | succ f ih =>
    intro n s
    simp only [Fs.setFrom, numsOf]
    split
    · rw [ih]; rfl
    · rfl

/-- A number below 64. -/
abbrev N64 := { x : Nat // x < 64 }

/-- A round keeps all blocks below n₀ but gs. -/
def Krd (n₀ gs : Nat) (W W' : World) : Prop := W.heap.size ≤ W'.heap.size ∧ ∀ i, i < n₀ → i ≠ gs → W'.heap[i]? = W.heap[i]?
theorem Krd.refl (n₀ gs : Nat) (W : World) : Krd n₀ gs W W := ⟨Nat.le_refl _, fun _ _ _ => rfl⟩
theorem Krd.trans {n₀ gs : Nat} {A B C : World} (h : Krd n₀ gs A B) (k : Krd n₀ gs B C) : Krd n₀ gs A C := ⟨Nat.le_trans h.1 k.1, fun i h1 h2 => (k.2 i h1 h2).trans (h.2 i h1 h2)⟩
theorem Krd.blk {n₀ gs : Nat} {A B : World} {g : Nat} {t : TypeId} {cs : Array Value} (h : Krd n₀ gs A B) (hb : Blk A g t cs) (h1 : g < n₀) (h2 : g ≠ gs) : Blk B g t cs := (h.2 g h1 h2).trans hb

/-- What is still to come: n on, with a fuel. -/
def ItrL (week : Bool) (H ST : Nat) (all : List Nat) (pre : List N64) (n : Nat) : Prop := ∃ f, H + 1 ≤ f + n ∧ all = pre.map (·.1) ++ numsOf week H ST f n

theorem ItrL.next {week : Bool} {H ST : Nat} {all : List Nat} {pre : List N64} {n : Nat} {x : N64} (h0 : 0 < ST) (h : ItrL week H ST all pre n) (hn : n ≤ H) (hx : x.1 = if week then n % 7 else n) : ItrL week H ST all (pre ++ [x]) (n + ST) := by
  obtain ⟨f, hf, h⟩ := h
  obtain ⟨f, rfl⟩ : ∃ f', f = f' + 1 := ⟨f - 1, by omega⟩
  refine ⟨f, by omega, ?_⟩
  rw [h]
  simp only [numsOf]
  rw [if_pos hn, List.map_append, List.map_cons, List.map_nil, hx]
  simp
theorem ItrL.last {week : Bool} {H ST : Nat} {all : List Nat} {pre : List N64} {n : Nat} (h : ItrL week H ST all pre n) (hn : H < n) : pre.map (·.1) = all := by
  obtain ⟨f, _, h⟩ := h
  rw [h]
  cases f with
  | zero => simp [numsOf]
  | succ f => simp only [numsOf]; rw [if_neg (by omega)]; simp

set_option maxRecDepth 100000 in
set_option maxHeartbeats 2000000 in
theorem nums1_in (F : Fence) (n : Nat) (hF : F.fn 105) (hro : F.round = none) (hn : 1 ≤ n) (l bl bh bs bp n₀ gs L H ST : Nat) (lo hi : Int) (nm : Value) (week : Bool) (J Jx : List N64 → World → Prop)
    (hL : L ≤ 1000) (hH : H ≤ 62) (hST0 : 0 < ST) (hST : ST ≤ 1000) (n1 : bl < n₀) (n2 : bh < n₀) (n3 : bs < n₀) (n4 : bp < n₀) (m1 : bl ≠ gs) (m2 : bh ≠ gs) (m3 : bs ≠ gs) (m4 : bp ≠ gs)
    (hY : ∀ pre x W, J pre W → pre.length < 100000 → YieldAt F (n - 1) Tryz.prog l #[.int .i64 (x : N64).1] W fun e W' =>
      (e = .returned (.bool true) ∧ J (pre ++ [x]) W' ∧ Krd n₀ gs W W') ∨ (e = .returned (.bool false) ∧ Jx (pre ++ [x]) W'))
    (W : World) (hBl : Blk W bl 3 #[.int .i64 L]) (hBh : Blk W bh 3 #[.int .i64 H]) (hBs : Blk W bs 3 #[.int .i64 ST]) (hBp : Blk W bp 66 #[.int .i64 lo, .int .i64 hi, nm, .bool week]) (h0 : J [] W) :
    CallsIn F n Tryz.prog 105 #[.func (.yield l) #[] #[], .pointer (some ⟨bl, 0, none⟩), .pointer (some ⟨bh, 0, none⟩), .pointer (some ⟨bs, 0, none⟩), .pointer (some ⟨bp, 0, none⟩)] W fun e W' => (∃ v, e = .returned v) ∧
      ((∃ ys : List N64, ys.map (·.1) = numsOf week H ST (H + 1 - L) L ∧ J ys W') ∨ (∃ pre, True ∧ Jx pre W')) := by
  have HBl := Lib.hid hBl
  have HBh := Lib.hid hBh
  have HBs := Lib.hid hBs
  have HBp := Lib.hid hBp
  obtain ⟨hcl, hfl⟩ := hBl.facts
  clear hBl hBh hBs hBp
  generalize hall : numsOf week H ST (H + 1 - L) L = all
  have Hall := Lib.hid hall; clear hall
  refine callsIn_of_wp Tryz.func105 rfl hF ?_ hro
  simp only [Tryz.ntmps105, List.size_toArray, List.length_cons, List.length_nil, Nat.reduceAdd, Nat.reduceSub, Array.replicate_succ, Array.replicate_zero, List.push_toArray, List.append_toArray, List.nil_append, List.cons_append]
  gi_wp2
  gi_loopw [6] (fun v wr => ∃ (pre : List N64) (N : Nat), v = .int .i64 N ∧ N ≤ 2000 ∧ pre.length + L ≤ N ∧ ItrL week H ST all pre N ∧ J pre wr ∧ Krd n₀ gs W wr) (fun v _ => H + 1 - (intOf v).toNat)
  case atStart => exact ⟨[], L, rfl, by omega, by simp, ⟨H + 1 - L, by omega, by simpa using Hall.out.symm⟩, h0, Krd.refl _ _ _⟩
  case round =>
    obtain ⟨pre, N, rfl, hN, hpl, hit, hj, hk⟩ := hrel
    have Hit := Lib.hid hit
    have Hj := Lib.hid hj
    have Hk := Lib.hid hk
    clear hit hj hk hcl hfl
    obtain ⟨hcH, hfH⟩ := (Hk.out.blk HBh.out n2 m2).facts
    obtain ⟨hcS, hfS⟩ := (Hk.out.blk HBs.out n3 m3).facts
    obtain ⟨hcP, hfP⟩ := (Hk.out.blk HBp.out n4 m4).facts
    by_cases hle : N ≤ H
    · cases week with
      | false =>
        obtain ⟨fn, tmps, assign, body, hy, hR⟩ := hY pre ⟨N, by omega⟩ wr Hj.out (by omega)
        dsimp only at hy
        have hnext : ItrL false H ST all (pre ++ [⟨N, by omega⟩]) (N + ST) := ItrL.next hST0 Hit.out hle (by rfl)
        have Hnext := Lib.hid hnext; clear hnext
        have HR := Lib.hid hR; clear hR
        have hy2 : (Instr.yield l #[.int .i64 ((N : Int))]).run Tryz.prog wr = .ok (.round l fn tmps assign body) wr := by simpa using hy
        clear hy
        gi_wp2
        refine HR.out.mono ?_
        rintro e W3 (⟨rfl, hJ3, hk3⟩ | ⟨rfl, hJx3⟩)
        · have HK3 := Lib.hid (Hk.out.trans hk3)
          have HJ3 := Lib.hid hJ3
          clear hJ3 hk3 hcH hfH hcS hfS hcP hfP
          obtain ⟨hcS, hfS⟩ := (HK3.out.blk HBs.out n3 m3).facts
          gi_wp2
          go_roundw
          case rel => exact ⟨pre ++ [⟨N, by omega⟩], N + ST, by go_num, by omega, by simp; omega, Hnext.out, HJ3.out, HK3.out⟩
          case measure => simp [intOf]; omega
        · gi_wp2
          refine bodyPost_ret (results_none rfl _ _ _) rfl ?_
          exact ⟨⟨_, rfl⟩, .inr ⟨_, trivial, hJx3⟩⟩
      | true =>
        obtain ⟨fn, tmps, assign, body, hy, hR⟩ := hY pre ⟨N % 7, by omega⟩ wr Hj.out (by omega)
        dsimp only at hy
        have hnext : ItrL true H ST all (pre ++ [⟨N % 7, by omega⟩]) (N + ST) := ItrL.next hST0 Hit.out hle (by rfl)
        have Hnext := Lib.hid hnext; clear hnext
        have HR := Lib.hid hR; clear hR
        have hy2 : (Instr.yield l #[.int .i64 ((N : Int) % 7)]).run Tryz.prog wr = .ok (.round l fn tmps assign body) wr := by simpa using hy
        clear hy
        gi_wp2
        refine HR.out.mono ?_
        rintro e W3 (⟨rfl, hJ3, hk3⟩ | ⟨rfl, hJx3⟩)
        · have HK3 := Lib.hid (Hk.out.trans hk3)
          have HJ3 := Lib.hid hJ3
          clear hJ3 hk3 hcH hfH hcS hfS hcP hfP
          obtain ⟨hcS, hfS⟩ := (HK3.out.blk HBs.out n3 m3).facts
          gi_wp2
          go_roundw
          case rel => exact ⟨pre ++ [⟨N % 7, by omega⟩], N + ST, by go_num, by omega, by simp; omega, Hnext.out, HJ3.out, HK3.out⟩
          case measure => simp [intOf]; omega
        · gi_wp2
          refine bodyPost_ret (results_none rfl _ _ _) rfl ?_
          exact ⟨⟨_, rfl⟩, .inr ⟨_, trivial, hJx3⟩⟩
    · have hend := ItrL.last Hit.out (by omega)
      have Hend := Lib.hid hend; clear hend
      gi_wp2
      go_end0
      exact ⟨⟨_, rfl⟩, .inl ⟨pre, Hend.out, Hj.out⟩⟩

/-- The iterator that numbers makes. -/
theorem nums_stops (F : Fence) (n : Nat) (hF : F.fn 105) (hro : F.round = none) (hn : 1 ≤ n) (bl bh bs bp gs L H ST : Nat) (lo hi : Int) (nm : Value) (week : Bool) (w : World)
    (hL : L ≤ 1000) (hH : H ≤ 62) (hST0 : 0 < ST) (hST : ST ≤ 1000) (m1 : bl ≠ gs) (m2 : bh ≠ gs) (m3 : bs ≠ gs) (m4 : bp ≠ gs)
    (hBl : Blk w bl 3 #[.int .i64 L]) (hBh : Blk w bh 3 #[.int .i64 H]) (hBs : Blk w bs 3 #[.int .i64 ST]) (hBp : Blk w bp 66 #[.int .i64 lo, .int .i64 hi, nm, .bool week]) :
    SeqStopsK F n Tryz.prog 105 #[.pointer (some ⟨bl, 0, none⟩), .pointer (some ⟨bh, 0, none⟩), .pointer (some ⟨bs, 0, none⟩), .pointer (some ⟨bp, 0, none⟩)] (fun x : N64 => #[.int .i64 x.1]) (Krd w.heap.size gs)
      (fun ys => ys.map (·.1) = numsOf week H ST (H + 1 - L) L) (fun _ => True) 100000 w := fun l J Jx W hW _ _ hY h0 =>
  nums1_in F n hF hro hn l bl bh bs bp w.heap.size gs L H ST lo hi nm week J Jx hL hH hST0 hST hBl.lt hBh.lt hBs.lt hBp.lt m1 m2 m3 m4 hY W (hBl.below hW hBl.lt) (hBh.below hW hBh.lt) (hBs.below hW hBs.lt) (hBp.below hW hBp.lt) h0

end Go.Proofs.YtjnlgaeedcklaaaGreatDoor
