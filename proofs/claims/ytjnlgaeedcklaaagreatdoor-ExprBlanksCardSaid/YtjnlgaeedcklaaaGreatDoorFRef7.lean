/-
  Facts about what reading items comes to. No program in sight.
  The set of a list of items. No program in sight.
  The document's text: the items of a field.
-/
import Derived.Test.YtjnlgaeedcklaaaGreatDoorFRef6
import Derived.Test.YtjnlgaeedcklaaaGreatDoorFBase
import Derived.Deep.RegionLaw
import Derived.Deep.AppendLies
set_option linter.unusedVariables false
set_option linter.unusedSimpArgs false
namespace Go.Proofs.YtjnlgaeedcklaaaGreatDoor
open Go.RowKit

theorem numAt_small {l : List UInt8} {k n e : Nat} (h : Fs.numAt l k = some (n, e)) : n ≤ 99 := by
  have hd : ∀ c : UInt8, Fs.digitB c = true → c.toNat - 48 ≤ 9 := by
    intro c hc
    simp only [Fs.digitB, Bool.and_eq_true, decide_eq_true_eq] at hc
    omega
  unfold Fs.numAt at h
  generalize l.drop k = m at h
  rcases m with _ | ⟨a, t⟩
  · simp [Fs.span] at h
  · cases ha : Fs.digitB a with
    | false => simp [Fs.span, ha] at h
    | true =>
      have h1 := hd a ha
      rcases t with _ | ⟨b, t⟩
      · simp [Fs.span, ha, Fs.numOf] at h
        omega
      · cases hb : Fs.digitB b with
        | false =>
          simp [Fs.span, ha, hb, Fs.numOf] at h
          omega
        | true =>
          have h2 := hd b hb
          simp [Fs.span, ha, hb, Fs.numOf] at h
          omega

theorem valAt_small {kd : Fs.Kind} {l : List UInt8} {k n e : Nat} (h : Fs.valAt kd l k = some (n, e)) (hlo : kd.lo ≤ 62) (hn : kd.names.length ≤ 100) : n ≤ 1000 := by
  unfold Fs.valAt at h
  simp only at h
  split at h
  · have := numAt_small h; omega
  · obtain ⟨i, hi, he⟩ := Option.map_eq_some_iff.1 h
    have := List.findIdx?_eq_some_iff_findIdx_eq.1 hi
    simp only [Prod.mk.injEq] at he
    omega

theorem stepAt_ok {l : List UInt8} {x y : Fs.Item} {a b : Nat} (h : Fs.stepAt l x a = .ok y b) (ha : a ≤ l.length) :
    a ≤ b ∧ b ≤ l.length ∧ ∃ st, y = { x with step := st } ∧ (st = x.step ∨ ∃ n, n ≤ 99 ∧ st = some (n, a + 1)) := by
  unfold Fs.stepAt at h
  split at h
  · rename_i hq
    have hlt : a < l.length := by
      rcases Nat.lt_or_ge a l.length with h' | h'
      · exact h'
      · rw [Fs.byteAt, List.getElem?_eq_none h'] at hq; simp at hq
    split at h
    · rename_i n c hc
      obtain ⟨h1, h2⟩ := numAt_le hc (by omega)
      injection h with h3 h4
      subst h3 h4
      exact ⟨by omega, h1, _, rfl, .inr ⟨n, numAt_small hc, rfl⟩⟩
    · cases h
  · injection h with h3 h4
    subst h3 h4
    exact ⟨Nat.le_refl _, ha, _, rfl, .inl rfl⟩

theorem itemAt_ok {kd : Fs.Kind} {l : List UInt8} {a b : Nat} {x : Fs.Item} (h : Fs.itemAt kd l a = .ok x b) (ha : a ≤ l.length) (hl : l.length ≤ 100000) (hlo : kd.lo ≤ 62) (hn : kd.names.length ≤ 100) :
    a < b ∧ b ≤ l.length ∧ Wf x := by
  unfold Fs.itemAt at h
  split at h
  · rename_i hq
    have hlt : a < l.length := by
      rcases Nat.lt_or_ge a l.length with h' | h'
      · exact h'
      · rw [Fs.byteAt, List.getElem?_eq_none h'] at hq; simp at hq
    obtain ⟨h1, h2, st, rfl, h3⟩ := stepAt_ok h (by omega)
    refine ⟨by omega, h2, ?_⟩
    rcases h3 with h3 | ⟨n, hn9, h3⟩ <;> subst h3
    · exact ⟨by simp [Fs.Item.start]; omega, trivial, trivial, trivial, .inl ⟨rfl, rfl, rfl⟩⟩
    · exact ⟨by simp [Fs.Item.start]; omega, trivial, trivial, ⟨by omega, by omega⟩, .inl ⟨rfl, rfl, rfl⟩⟩
  · split at h
    · cases h
    · rename_i n c hc
      obtain ⟨h1, h2⟩ := valAt_le hc ha
      have hs := valAt_small hc hlo hn
      split at h
      · rename_i hq
        have hlt : c < l.length := by
          rcases Nat.lt_or_ge c l.length with h' | h'
          · exact h'
          · rw [Fs.byteAt, List.getElem?_eq_none h'] at hq; simp at hq
        split at h
        · cases h
        · rename_i m d hd
          obtain ⟨h4, h5⟩ := valAt_le hd (by omega)
          have hs2 := valAt_small hd hlo hn
          obtain ⟨h6, h7, st, rfl, h8⟩ := stepAt_ok h h4
          refine ⟨by omega, h7, ?_⟩
          rcases h8 with h3 | ⟨n, hn9, h3⟩ <;> subst h3
          · exact ⟨by simp [Fs.Item.start]; omega, ⟨hs, by omega⟩, ⟨hs2, by omega⟩, trivial, .inr ⟨rfl, _, rfl⟩⟩
          · exact ⟨by simp [Fs.Item.start]; omega, ⟨hs, by omega⟩, ⟨hs2, by omega⟩, ⟨by omega, by omega⟩, .inr ⟨rfl, _, rfl⟩⟩
      · obtain ⟨h6, h7, st, rfl, h8⟩ := stepAt_ok h h1
        refine ⟨by omega, h7, ?_⟩
        rcases h8 with h3 | ⟨n, hn9, h3⟩ <;> subst h3
        · exact ⟨by simp [Fs.Item.start]; omega, ⟨hs, by omega⟩, trivial, trivial, .inr ⟨rfl, _, rfl⟩⟩
        · exact ⟨by simp [Fs.Item.start]; omega, ⟨hs, by omega⟩, trivial, ⟨by omega, by omega⟩, .inr ⟨rfl, _, rfl⟩⟩

/-- What is read, behind some items. -/
def app (xs : List Fs.Item) : Fs.Rd (List Fs.Item) → Fs.Rd (List Fs.Item)
  | .ok r b => .ok (xs ++ r) b
  | .bad a => .bad a

theorem itemsAt_succ (kd : Fs.Kind) (l : List UInt8) (f a : Nat) :
    Fs.itemsAt kd l (f + 1) a = match Fs.itemAt kd l a with
      | .bad b => .bad b
      | .ok x b => if b = l.length then .ok [x] b else if Fs.byteAt l b 44 then app [x] (Fs.itemsAt kd l f (b + 1)) else .bad b := by
  rw [Fs.itemsAt]
  cases Fs.itemAt kd l a with
  | bad b => rfl
  | ok x b =>
    simp only
    split
    · rfl
    · split
      · cases Fs.itemsAt kd l f (b + 1) <;> rfl
      · rfl

theorem app_app (xs ys : List Fs.Item) (r : Fs.Rd (List Fs.Item)) : app xs (app ys r) = app (xs ++ ys) r := by
  cases r <;> simp [app]

/-- The items read so far, the place, and what is still to come. -/
def ItRel (kd : Fs.Kind) (l : List UInt8) (xs : List Fs.Item) (a : Nat) : Prop :=
  ∃ f, l.length + 1 ≤ f + a ∧ Fs.itemsAt kd l (l.length + 1) 0 = app xs (Fs.itemsAt kd l f a)

theorem ItRel.start (kd : Fs.Kind) (l : List UInt8) : ItRel kd l [] 0 := ⟨l.length + 1, by omega, by cases Fs.itemsAt kd l (l.length + 1) 0 <;> simp [app]⟩

theorem ItRel.bad {kd : Fs.Kind} {l : List UInt8} {xs : List Fs.Item} {a b : Nat} (h : ItRel kd l xs a) (ha : a ≤ l.length) (hi : Fs.itemAt kd l a = .bad b) : Fs.itemsAt kd l (l.length + 1) 0 = .bad b := by
  obtain ⟨f, hf, he⟩ := h
  obtain ⟨f, rfl⟩ : ∃ g, f = g + 1 := ⟨f - 1, by omega⟩
  rw [he, itemsAt_succ, hi]; rfl

theorem ItRel.last {kd : Fs.Kind} {l : List UInt8} {xs : List Fs.Item} {a : Nat} {x : Fs.Item} (h : ItRel kd l xs a) (ha : a ≤ l.length) (hi : Fs.itemAt kd l a = .ok x l.length) : Fs.itemsAt kd l (l.length + 1) 0 = .ok (xs ++ [x]) l.length := by
  obtain ⟨f, hf, he⟩ := h
  obtain ⟨f, rfl⟩ : ∃ g, f = g + 1 := ⟨f - 1, by omega⟩
  rw [he, itemsAt_succ, hi]; simp [app]

theorem ItRel.wrong {kd : Fs.Kind} {l : List UInt8} {xs : List Fs.Item} {a b : Nat} {x : Fs.Item} (h : ItRel kd l xs a) (ha : a ≤ l.length) (hi : Fs.itemAt kd l a = .ok x b) (hb : b ≠ l.length) (hq : Fs.byteAt l b 44 = false) : Fs.itemsAt kd l (l.length + 1) 0 = .bad b := by
  obtain ⟨f, hf, he⟩ := h
  obtain ⟨f, rfl⟩ : ∃ g, f = g + 1 := ⟨f - 1, by omega⟩
  rw [he, itemsAt_succ, hi]; simp [app, hb, hq]

theorem ItRel.next {kd : Fs.Kind} {l : List UInt8} {xs : List Fs.Item} {a b : Nat} {x : Fs.Item} (h : ItRel kd l xs a) (ha : a < b) (hl : a ≤ l.length) (hi : Fs.itemAt kd l a = .ok x b) (hb : b ≠ l.length) (hq : Fs.byteAt l b 44 = true) : ItRel kd l (xs ++ [x]) (b + 1) := by
  obtain ⟨f, hf, he⟩ := h
  obtain ⟨f, rfl⟩ : ∃ g, f = g + 1 := ⟨f - 1, by omega⟩
  refine ⟨f, by omega, ?_⟩
  rw [he, itemsAt_succ, hi]; simp [hb, hq, app_app]

end Go.Proofs.YtjnlgaeedcklaaaGreatDoor

namespace Go.Proofs.YtjnlgaeedcklaaaGreatDoor
open Go.RowKit

theorem setFrom_or (week : Bool) (hi st : Nat) : ∀ (f n s t : Nat), Fs.setFrom week hi st f n (s ||| t) = s ||| Fs.setFrom week hi st f n t := by
  intro f
  induction f with
  | zero => intro n s t; rfl
  | succ f ih =>
    intro n s t
    simp only [Fs.setFrom]
    split
    · rw [Nat.or_assoc, ih]
    · rfl

theorem itemSet_or (k : Fs.Kind) (x : Fs.Item) (s : Nat) : Fs.itemSet k x s = s ||| Fs.itemSet k x 0 := by
  have := setFrom_or k.week (Fs.itemHi k x) (Fs.itemStep x) (Fs.itemHi k x + 1 - Fs.itemLo k x) (Fs.itemLo k x) s 0
  rw [Nat.or_zero] at this
  exact this

theorem setFrom_lt (week : Bool) (hi st : Nat) (hhi : hi ≤ 62) : ∀ (f n s : Nat), s < 18446744073709551616 → Fs.setFrom week hi st f n s < 18446744073709551616 := by
  intro f
  induction f with
  | zero => intro n s hs; exact hs
  | succ f ih =>
    intro n s hs
    simp only [Fs.setFrom]
    split
    · refine ih _ _ (or_lt hs (pow_lt ?_))
      split
      · have := Nat.mod_lt n (show 0 < 7 by omega); omega
      · omega
    · exact hs

theorem itemHi_le (lo hi : Nat) (l : List ByteArray) (week : Bool) (x : Fs.Item) (hk : Okk lo hi week) (hx : Wf x) (hw : Fs.wrongAt (kind lo hi l week) x = none) : Fs.itemHi (kind lo hi l week) x ≤ 62 := by
  obtain ⟨star, at_, xlo, xhi, xst⟩ := x
  obtain ⟨ha, s1, s2, s3, s4⟩ := hx
  obtain ⟨h1, h2, h3⟩ := hk
  have hk : Okk lo hi week := ⟨h1, h2, h3⟩
  simp only at s4
  rcases s4 with ⟨rfl, rfl, rfl⟩ | ⟨rfl, n, rfl⟩
  · simp [Fs.itemHi, kind, h2]
  · have hb : Fs.inB (kind lo hi l week) n = true := by
      cases hb : Fs.inB (kind lo hi l week) n with
      | true => rfl
      | false => simp [Fs.wrongAt, hb] at hw
    have n1 := (inB_le hk hb).1
    rcases xhi with _ | ⟨m, b⟩
    · rcases xst with _ | ⟨st, a⟩
      · simpa [Fs.itemHi, Fs.itemLo] using n1
      · simp [Fs.itemHi, Fs.itemLo, kind]; omega
    · have hb2 : Fs.inB (kind lo hi l week) m = true := by
        cases hb2 : Fs.inB (kind lo hi l week) m with
        | true => rfl
        | false => simp [Fs.wrongAt, hb, hb2] at hw
      have m1 := (inB_le hk hb2).1
      simpa [Fs.itemHi] using m1

theorem itemSet_lt (lo hi : Nat) (l : List ByteArray) (week : Bool) (x : Fs.Item) (hk : Okk lo hi week) (hx : Wf x) (hw : Fs.wrongAt (kind lo hi l week) x = none) : Fs.itemSet (kind lo hi l week) x 0 < 18446744073709551616 :=
  setFrom_lt _ _ _ (itemHi_le lo hi l week x hk hx hw) _ _ _ (by omega)

theorem itemsAt_wf (kd : Fs.Kind) (l : List UInt8) (hl : l.length ≤ 100000) (hlo : kd.lo ≤ 62) (hn : kd.names.length ≤ 100) : ∀ (f a : Nat) (xs : List Fs.Item) (b : Nat), a ≤ l.length → Fs.itemsAt kd l f a = .ok xs b → (∀ x ∈ xs, Wf x) ∧ xs.length ≤ l.length + 1 - a := by
  intro f
  induction f with
  | zero => intro a xs b _ h; cases h
  | succ f ih =>
    intro a xs b ha h
    rw [itemsAt_succ] at h
    cases hi : Fs.itemAt kd l a with
    | bad c => rw [hi] at h; cases h
    | ok x c =>
      rw [hi] at h
      simp only at h
      obtain ⟨h1, h2, h3⟩ := itemAt_ok hi ha hl hlo hn
      split at h
      · injection h with h h'
        subst h
        exact ⟨by intro y hy; simp at hy; subst hy; exact h3, by simp; omega⟩
      · split at h
        · cases hr : Fs.itemsAt kd l f (c + 1) with
          | bad d => rw [hr] at h; cases h
          | ok ys d =>
            rw [hr] at h
            simp only [app] at h
            injection h with h h'
            subst h
            obtain ⟨h4, h5⟩ := ih (c + 1) ys d (by omega) hr
            refine ⟨?_, by simp; omega⟩
            intro y hy
            simp at hy
            rcases hy with rfl | hy
            · exact h3
            · exact h4 y hy
        · cases h

theorem check_bounds {lo hi : Int} {l : List ByteArray} {week : Bool} (h : Fs.checkB (kind lo hi l week) = true) : 0 ≤ lo ∧ lo ≤ 62 ∧ Okk lo.toNat hi.toNat week ∧ 0 ≤ hi ∧ l.length ≤ 100 := by
  rw [kind_check] at h
  simp only [Bool.and_eq_true] at h
  obtain ⟨a1, a2, a3, a4, a5⟩ := bounds_of _ _ _ _ h.1
  refine ⟨a1, by omega, ⟨by omega, by omega, fun hw => ?_⟩, by omega, ?_⟩
  · have := a4 hw; omega
  · rcases a5 with h | h <;> omega

end Go.Proofs.YtjnlgaeedcklaaaGreatDoor

namespace Go.Proofs.YtjnlgaeedcklaaaGreatDoor
open Go.RowKit

theorem info_ritem : (Tryz.prog.info? 148).map (fun i => (i.zero, i.size, i.bytes)) = some (some (.agg #[.bool false, .int .i64 0, .int .i64 0, .int .i64 0, .int .i64 0, .int .i64 0, .int .i64 0]), 7, 56) := by kernel_rfl

/-- What reading the items comes to. -/
def ItemsR (w : World) : Fs.Rd (List Fs.Item) → Ending → World → Prop
  | .ok xs _, e, w' => (∃ v, e = .returned (.tuple #[v, .int .i64 0, .bool true]) ∧ w'.ownsRow (w.heap.size + 1) 148 7 v xs.length (xs.flatMap cellsR)) ∧ Below w.heap.size w w'
  | .bad a, e, w' => e = .returned (.tuple #[.slice none 0 0, .int .i64 a, .bool false]) ∧ Below w.heap.size w w'

theorem heap_alloc_at {W : World} {o : Obj} {n : Nat} (h : W.heap.size = n) : (W.alloc o).heap[n]? = some o := h ▸ heap_alloc_new W o

theorem flat_len (xs : List Fs.Item) : (xs.flatMap cellsR).length = xs.length * 7 := by
  induction xs with
  | nil => rfl
  | cons x xs ih => simp [ih, cellsR]; omega

/-- The state of the loop. -/
def ItLoop (kd : Fs.Kind) (s : ByteArray) (w : World) (cs : Array Value) (v a : Value) (wr : World) : Prop :=
  ∃ (xs : List Fs.Item) (k : Nat), a = .int .i64 k ∧ k ≤ s.size ∧ xs.length ≤ k ∧ ItRel kd s.data.toList xs k ∧ wr.ownsRow (w.heap.size + 1) 148 7 v xs.length (xs.flatMap cellsR) ∧ Below w.heap.size w wr ∧ Blk wr w.heap.size 93 cs

set_option maxRecDepth 100000 in
set_option maxHeartbeats 2000000 in
theorem ref_items (s : ByteArray) (w : World) (lo hi : Int) (A : Option Addr) (c : Nat) (l : List ByteArray) (week : Bool) (hs : s.size ≤ 100000) (hlo : 0 ≤ lo) (hhi : lo ≤ 62)
    (hn : l.length ≤ 100) (hcc : l.length ≤ c) (hA : Names w w.heap.size A l) :
    Calls Tryz.prog 78 #[.agg #[.int .i64 lo, .int .i64 hi, .slice A l.length c, .bool week], .string s] w (ItemsR w (Fs.itemsAt (kind lo hi l week) s.data.toList (s.data.toList.length + 1) 0)) := by
  have HA := Lib.hid hA; clear hA
  have hsz := Lib.size_eq s
  have hsz' : s.data.toList.length = s.size := hsz.symm
  have Hz := Lib.hid hsz'; clear hsz hsz'
  generalize hr : Fs.itemsAt (kind lo hi l week) s.data.toList (s.data.toList.length + 1) 0 = r
  have Hr := Lib.hid hr; clear hr
  obtain ⟨i0, hi0, hz0, hz1, hz2⟩ := info_parts info_ritem
  have hblk := Blk.new w 93 #[.int .i64 lo, .int .i64 hi, .slice A l.length c, .bool week]
  have HBn := Lib.hid hblk; clear hblk
  go_enter Tryz.func78, Tryz.ntmps78
  go_wp2
  go_loopw [7, 8, 9, 10, 11] (fun v a _ _ _ wr => ItLoop (kind lo hi l week) s w #[.int .i64 lo, .int .i64 hi, .slice A l.length c, .bool week] v a wr) (fun _ a _ _ _ _ => s.size + 1 - (intOf a).toNat)
  case atStart => exact ⟨[], 0, rfl, by omega, by simp, ItRel.start _ _, World.ownsRow_nil _ _ _ _, (Below.refl _ _).alloc (Nat.le_refl _) _, HBn.out⟩
  case round =>
    obtain ⟨xs, k, rfl, hk, hxk, hrel, hown, hbw, hB⟩ := hrel
    have Hrel := Lib.hid hrel; clear hrel
    have Hown := Lib.hid hown
    have HB := Lib.hid hB
    have Hbw := Lib.hid hbw
    have hgl := hB.lt
    obtain ⟨hc, hf⟩ := hB.facts
    clear hown hB hbw
    have hone := ref_one s k wr lo hi A c l week hs hk hlo hhi (by omega) hcc (HA.out.below Hbw.out (by omega))
    have HO := Lib.hid hone; clear hone
    cases hit : Fs.itemAt (kind lo hi l week) s.data.toList k with
    | bad b =>
      have hres := Hrel.out.bad (by rw [Hz.out]; exact hk) hit
      rw [Hr.out] at hres
      subst hres
      have Hit := Lib.hid hit; clear hit
      go_wp2_with (first | (go_at_call 117; ((with_reducible refine (HO.out).mono ?_)); rw [Hit.out]; rintro e w1 ⟨⟨q0, q1, q2, q3, q4, q5, q6, rfl⟩, hb1⟩))
      refine bodyPost_ret (v := .tuple #[.slice none 0 0, .int .i64 b, .bool false]) (by simp [results, Tryz.results78, go_sem]) rfl ⟨rfl, ?_⟩
      have hb2 := Hbw.out.trans (hb1.mono (Nat.le_of_lt hgl))
      repeat (first | (with_reducible exact hb2) | (with_reducible exact hb2.alloc hb2.size _) | (refine Below.setCell ?_ (by have := hb2.size; first | (simp; done) | (simp; omega)) _))
    | ok x b =>
      obtain ⟨hkb, hbl, hwf⟩ := itemAt_ok hit (by rw [Hz.out]; exact hk) (by rw [Hz.out]; exact hs) hhi (by simpa [kind] using hn)
      rw [Hz.out] at hbl
      have hone2 : Calls Tryz.prog 117 #[.agg #[.int .i64 lo, .int .i64 hi, .slice A l.length c, .bool week], .string s, .int .i64 k] wr fun e w' => e = .returned (.tuple #[.agg #[.bool x.star, .int .i64 (pn x.lo), .int .i64 (pn x.hi), .int .i64 (pn x.step), .int .i64 x.at_, .int .i64 (pa x.hi), .int .i64 (pa x.step)], .int .i64 b, .bool true]) ∧ Below wr.heap.size wr w' := by
        have := HO.out
        rw [hit] at this
        exact this
      have HO2 := Lib.hid hone2; clear hone2
      have Hone : Hid (∀ u ∈ cellsR x, u.oneCell' = true) := Lib.hid (by intro u hu; simp [cellsR] at hu; rcases hu with rfl | rfl | rfl | rfl | rfl | rfl | rfl <;> rfl)
      have Hit := Lib.hid hit; clear hit
      rcases byte_cases s b 44 hbl with ⟨hq, hp, hbq⟩ | ⟨hq, hp, hbq⟩ | ⟨hq, hp, hz⟩
      · have hne : ((b : Int) == (s.size : Int)) = false := by rw [beq_eq_false_iff_ne]; omega
        have hnx := Hrel.out.next hkb (by rw [Hz.out]; exact hk) Hit.out (by rw [Hz.out]; omega) hq
        have Hnx := Lib.hid hnx; clear hnx hq
        have hbn : ((s[b].toNat : Int) != 44) = false := by rw [bne, show ((s[b].toNat : Int) == 44) = true from hbq]; rfl
        go_wp2_with (first
          | (go_at_call 117; ((with_reducible refine (HO2.out).mono ?_)); rintro e w1 ⟨rfl, hb1⟩; have Ho1 : Hid (w1.ownsRow (w.heap.size + 1) 148 7 u7 xs.length (xs.flatMap cellsR)) := Lib.hid (own_kp (S := fun _ => False) Hown.out (Kp.of_below hb1) (fun _ h => h.elim)); have Hsz1 : Hid (w.heap.size < w1.heap.size) := Lib.hid (Nat.lt_of_lt_of_le hgl hb1.size))
          | (at_builtin; refine wpList_append_own _ rfl _ _ 143 rfl (w.heap.size + 1) 148 i0 _ 7 56 Tryz.underlying143 hi0 hz0 hz1 hz2 rfl (by decide) u7 xs.length (xs.flatMap cellsR) rfl ((Ho1.out.alloc _).alloc _) ⟨w1.heap.size + 1, 0, none⟩ 1 1 (cellsR x) rfl rfl (World.news_of_block (cs := (cellsR x).toArray) (t := 148) (fr := (0, 0)) (heap_alloc_at (by simp))) Hone.out (by unfold maxLen; omega) (by omega) (by have := Hsz1.out; simp; omega) ?_; intro v2 w2 hown2 hgrow2 _; have hk2 : Kp (fun i => u7.ownBlock = some i) w1 w2 := Kp.trans (((Kp.refl _ w1).alloc _).alloc _) (kp_grown hgrow2)))
        have hbw2 : Below w.heap.size w w2 := Kp.below (Hbw.out.trans (hb1.mono (Nat.le_of_lt hgl))) hk2 (by have := Hsz1.out; omega) (fun i h => by have := (Ho1.out.lt i h).1; omega)
        go_roundw
        case rel => exact ⟨xs ++ [x], b + 1, by go_num, by omega, by simp; omega, Hnx.out, by simpa using hown2, hbw2, (HB.out.below hb1 hgl).kp hk2 (fun h => by have := (Ho1.out.lt _ h).1; omega)⟩
        case measure => simp [intOf]; omega
      · have hne : ((b : Int) == (s.size : Int)) = false := by rw [beq_eq_false_iff_ne]; omega
        have hbn : ((s[b].toNat : Int) != 44) = true := by rw [bne, show ((s[b].toNat : Int) == 44) = false from hbq]; rfl
        have hres := Hrel.out.wrong (by rw [Hz.out]; exact hk) Hit.out (by rw [Hz.out]; omega) hq
        rw [Hr.out] at hres
        subst hres
        clear hq
        go_wp2_with (first
          | (go_at_call 117; ((with_reducible refine (HO2.out).mono ?_)); rintro e w1 ⟨rfl, hb1⟩; have Ho1 : Hid (w1.ownsRow (w.heap.size + 1) 148 7 u7 xs.length (xs.flatMap cellsR)) := Lib.hid (own_kp (S := fun _ => False) Hown.out (Kp.of_below hb1) (fun _ h => h.elim)); have Hsz1 : Hid (w.heap.size < w1.heap.size) := Lib.hid (Nat.lt_of_lt_of_le hgl hb1.size))
          | (at_builtin; refine wpList_append_own _ rfl _ _ 143 rfl (w.heap.size + 1) 148 i0 _ 7 56 Tryz.underlying143 hi0 hz0 hz1 hz2 rfl (by decide) u7 xs.length (xs.flatMap cellsR) rfl ((Ho1.out.alloc _).alloc _) ⟨w1.heap.size + 1, 0, none⟩ 1 1 (cellsR x) rfl rfl (World.news_of_block (cs := (cellsR x).toArray) (t := 148) (fr := (0, 0)) (heap_alloc_at (by simp))) Hone.out (by unfold maxLen; omega) (by omega) (by have := Hsz1.out; simp; omega) ?_; intro v2 w2 hown2 hgrow2 _; have hk2 : Kp (fun i => u7.ownBlock = some i) w1 w2 := Kp.trans (((Kp.refl _ w1).alloc _).alloc _) (kp_grown hgrow2)))
        have hbw2 : Below w.heap.size w w2 := Kp.below (Hbw.out.trans (hb1.mono (Nat.le_of_lt hgl))) hk2 (by have := Hsz1.out; omega) (fun i h => by have := (Ho1.out.lt i h).1; omega)
        refine bodyPost_ret (v := .tuple #[.slice none 0 0, .int .i64 b, .bool false]) (by simp [results, Tryz.results78, go_sem]) rfl ⟨rfl, hbw2⟩
      · subst hz
        have hres := Hrel.out.last (x := x) (by rw [Hz.out]; exact hk) (by rw [Hit.out, Hz.out])
        rw [Hr.out] at hres
        subst hres
        clear hq
        go_wp2_with (first
          | (go_at_call 117; ((with_reducible refine (HO2.out).mono ?_)); rintro e w1 ⟨rfl, hb1⟩; have Ho1 : Hid (w1.ownsRow (w.heap.size + 1) 148 7 u7 xs.length (xs.flatMap cellsR)) := Lib.hid (own_kp (S := fun _ => False) Hown.out (Kp.of_below hb1) (fun _ h => h.elim)); have Hsz1 : Hid (w.heap.size < w1.heap.size) := Lib.hid (Nat.lt_of_lt_of_le hgl hb1.size))
          | (at_builtin; refine wpList_append_own _ rfl _ _ 143 rfl (w.heap.size + 1) 148 i0 _ 7 56 Tryz.underlying143 hi0 hz0 hz1 hz2 rfl (by decide) u7 xs.length (xs.flatMap cellsR) rfl ((Ho1.out.alloc _).alloc _) ⟨w1.heap.size + 1, 0, none⟩ 1 1 (cellsR x) rfl rfl (World.news_of_block (cs := (cellsR x).toArray) (t := 148) (fr := (0, 0)) (heap_alloc_at (by simp))) Hone.out (by unfold maxLen; omega) (by omega) (by have := Hsz1.out; simp; omega) ?_; intro v2 w2 hown2 hgrow2 _; have hk2 : Kp (fun i => u7.ownBlock = some i) w1 w2 := Kp.trans (((Kp.refl _ w1).alloc _).alloc _) (kp_grown hgrow2)))
        have hbw2 : Below w.heap.size w w2 := Kp.below (Hbw.out.trans (hb1.mono (Nat.le_of_lt hgl))) hk2 (by have := Hsz1.out; omega) (fun i h => by have := (Ho1.out.lt i h).1; omega)
        refine bodyPost_ret (v := .tuple #[v2, .int .i64 0, .bool true]) (by simp [results, Tryz.results78, go_sem]) rfl ⟨⟨_, rfl, by simpa using hown2⟩, hbw2⟩

end Go.Proofs.YtjnlgaeedcklaaaGreatDoor
