/-
  A region within a round of a loop over an iterator, at the wide fence: by the plain laws of regions.
  Two boxes with their own rows, of strings and of numbers: what an append to either leaves.
  What read's second loop needs: a word of the row, a kind of the six, the expression's cells behind a store.
  What the walks through read and Parse share: stores of eight cells, results, what the loops keep.
-/
import Derived.RangeFuncNested
import Derived.RangeFuncCalls
import Derived.OwnWalkIn
import Derived.RegionIn
import Derived.Deep.AppendLies
import Derived.RangeFuncBox
import Derived.Test.YtjnlgaeedcklaaaGreatDoorFBase
import Derived.Test.YtjnlgaeedcklaaaGreatDoorXPlain4
import Derived.Test.YtjnlgaeedcklaaaGreatDoorXPrint
import Derived.Test.YtjnlgaeedcklaaaGreatDoorXWords
import Derived.Laws.EntriesVeiled
import Derived.Test.YtjnlgaeedcklaaaGreatDoorFParseP
set_option linter.unusedVariables false
set_option linter.unusedSimpArgs false
namespace Go.Proofs.YtjnlgaeedcklaaaGreatDoor
open Go.RowKit

theorem rowsIn_wide {n l : Nat} {P : Program} {row : String} {args : Array Value} {w : World} {R : Value → World → Prop} (h : Rows P row args w R) : RowsIn (Fence.wide.inRound l) n P row args w R := by
  intro c cs _
  obtain ⟨v, w', hr, hs⟩ := h c cs
  exact ⟨v, w', hr, stepsIn_wide.2 hs⟩

section
variable {l n : Nat} {P : Program} {Q : Exit → Act → World → Prop}
theorem wpIn_of_wp {o : Oper} {a : Act} {w : World} {K : Act → World → Prop} (hd : ∀ c, o.op ≠ .defer c) (h : o.wp P a w K Q) : o.wpIn (Fence.wide.inRound l) n P a w K Q := by
  refine ⟨fun _ _ => trivial, ?_⟩
  rw [Oper.semAt_plain _ _ _ hd]
  unfold Oper.wp at h
  generalize (execOp a.eval o).run P w = r at *
  cases r with
  | ok x w' =>
    cases x <;> simp only [Oper.upon, Oper.uponIn] at h ⊢ <;> first
      | exact h
      | exact ⟨fun hh => (by cases hh), callsIn_wide.2 h⟩
      | exact ⟨fun hh => (by cases hh), rowsIn_wide h⟩
      | exact h.elim
  | halt y w' => cases y <;> simp only [Oper.upon, Oper.uponIn] at h ⊢ <;> first | exact h | exact h.elim

theorem in_of_any {md : Region.Mode} {ops : Array Oper} (hL : ¬ LetsOut Q) (hd : ∀ (i : Nat) o c, ops[i]? = some o → o.op ≠ .defer c) :
    ∀ (fuel : Nat) (listed : Array Bool) (a : Act) (w : World), wpAny P md ops Q fuel listed a w → wpAnyIn (Fence.wide.inRound l) n P md ops Q fuel listed a w := by
  intro fuel
  induction fuel with
  | zero => intro listed a w h; exact h
  | succ fuel ih =>
    intro listed a w h
    refine ⟨h.1, fun i hi => ?_⟩
    have h2 := h.2 i hi
    unfold wpOp at h2
    unfold wpOpIn
    cases ho : ops[i]? with
    | none => rw [ho] at h2; exact ih _ _ _ h2
    | some o =>
      rw [ho] at h2
      simp only at h2 ⊢
      split
      · rename_i hw
        rw [if_pos hw] at h2
        rcases h2 with h2 | ⟨_, h2⟩
        · exact Oper.wpIn_mono (fun a w => ih _ a w) (wpIn_of_wp (hd i o · ho) h2)
        · exact absurd h2 hL
      · rename_i hw
        rw [if_neg hw] at h2
        exact ⟨fun _ _ => trivial, ih _ _ _ h2⟩

theorem region_in {id : Nat} {ops : Array Oper} {a : Act} {w : World} (hmix : P.follows .mixedOrders = true) (hL : ¬ LetsOut Q) (hd : ∀ (i : Nat) o c, ops[i]? = some o → o.op ≠ .defer c)
    (h : wpAny P .any ops Q ops.size (Array.replicate ops.size false) a w.drew) : (Code.region id ops true).wpIn (Fence.wide.inRound l) n P Q a w :=
  wpIn_region_any hmix (in_of_any hL hd _ _ _ _ h)
end

/-- Two rows of cells of different types lie apart. -/
theorem rows_apart {w : World} {B C s t n m : Nat} {e f : TypeId} {u v : Value} {xs ys : List Value} (h : w.ownsRow B e s u n xs) (k : w.ownsRow C f t v m ys) (hne : e ≠ f) : ∀ i, u.ownBlock = some i → v.ownBlock ≠ some i := by
  intro i hu hv
  rcases h.2 with ⟨rfl, _⟩ | ⟨g, c1, cur1, rfl, _, h1, _⟩
  · simp [Value.ownBlock] at hu
  · rcases k.2 with ⟨rfl, _⟩ | ⟨g', c2, cur2, rfl, _, h2, _⟩
    · simp [Value.ownBlock] at hv
    · simp only [Value.ownBlock, Option.some.injEq] at hu hv
      subst hu; subst hv
      rw [h1] at h2
      injection h2 with h2
      injection h2 with _ h2
      exact hne h2

/-- A cell of a block that has not grown. -/
theorem grown_cell {w w' : World} {row : Option Nat} (hg : w.grownBy w' row) {b o : Nat} (hb : b < w.heap.size) (hne : row ≠ some b) : w'.cell? ⟨b, o, none⟩ = w.cell? ⟨b, o, none⟩ :=
  World.cell?_of_block (hg.block b hb (fun e => hne e.symm))
end Go.Proofs.YtjnlgaeedcklaaaGreatDoor

namespace Go.Proofs.YtjnlgaeedcklaaaGreatDoor
open Go.RowKit

structure Two (n₀ b3 b4 B0 : Nat) (W : World) (p q v : Value) (k : Nat) (xs : List Value) (u : Value) (m : Nat) (ys : List Value) (V : World) : Prop where
  h3 : Boxed V b3 58 p
  h4 : Boxed V b4 87 q
  r3 : V.ownsRow n₀ 9 1 v k xs
  r4 : V.ownsRow n₀ 3 1 u m ys
  ko : KeepsOthers W V
  bl : Below B0 W V
  oth : ∀ b, b < n₀ → b ≠ b3 → b ≠ b4 → V.heap[b]? = W.heap[b]?
  n0 : n₀ ≤ W.heap.size
  sz : W.heap.size ≤ V.heap.size
  c0 : B0 ≤ n₀

section
variable {n₀ b3 b4 B0 : Nat} {W : World} {p q v : Value} {k : Nat} {xs : List Value} {u : Value} {m : Nat} {ys : List Value} {V V' : World}

theorem Two.drew (h : Two n₀ b3 b4 B0 W p q v k xs u m ys V) : Two n₀ b3 b4 B0 W p q v k xs u m ys V.drew := ⟨h.h3, h.h4, h.r3, h.r4, ⟨h.ko.size, h.ko.same⟩, ⟨h.bl.os, h.bl.tape, h.bl.output, h.bl.size, h.bl.block⟩, h.oth, h.n0, h.sz, h.c0⟩

theorem Two.alloc (h : Two n₀ b3 b4 B0 W p q v k xs u m ys V) (o : Obj) : Two n₀ b3 b4 B0 W p q v k xs u m ys (V.alloc o) := by
  refine ⟨h.h3.alloc o, h.h4.alloc o, h.r3.alloc o, h.r4.alloc o, h.ko.trans (KeepsOthers.alloc V o), h.bl.alloc (Nat.le_trans h.c0 (Nat.le_trans h.n0 h.sz)) o, fun b hb h1 h2 => ?_, h.n0, Nat.le_trans h.sz (by simp), h.c0⟩
  rw [← h.oth b hb h1 h2]
  exact (World.grownBy_alloc V o none).block b (Nat.lt_of_lt_of_le hb (Nat.le_trans h.n0 h.sz)) (by simp)

theorem own_at {base size n : Nat} {e : TypeId} {t : Value} {zs : List Value} (h : V.ownsRow base e size t n zs) {j : Nat} (hj : t.ownBlock = some j) : base ≤ j ∧ j < V.heap.size ∧ ∀ o, V.heap[j]? = some o → o.isCells = true := by
  rcases h.2 with ⟨rfl, _⟩ | ⟨g, cap, cur, rfl, hb, hgb, _⟩
  · simp [Value.ownBlock] at hj
  · obtain rfl : g = j := by simpa [Value.ownBlock] using hj
    exact ⟨hb, (Array.getElem?_eq_some_iff.1 hgb).1, fun o ho => by rw [hgb] at ho; cases ho; rfl⟩

theorem own_new {base size n : Nat} {e : TypeId} {t : Value} {zs : List Value} (h : V.ownsRow base e size t n zs) {g : Nat} (hg : V.heap.size ≤ g) : some g ≠ t.ownBlock := fun e => by
  have := (own_at h e.symm).2.1
  omega

theorem Two.grown3 (h : Two n₀ b3 b4 B0 W p q v k xs u m ys V) {v' : Value} {k' : Nat} {xs' : List Value} (ho : V'.ownsRow n₀ 9 1 v' k' xs') (hg : V.grownBy V' v.ownBlock) : Two n₀ b3 b4 B0 W p q v' k' xs' u m ys V' := by
  refine ⟨h.h3.kept hg (h.h3.not_row (by decide) h.r3), h.h4.kept hg (h.h4.not_row (by decide) h.r3), ho, h.r4.kept hg ?_, h.ko.trans (KeepsOthers.of_grownBy hg fun j o ej hj => (own_at h.r3 ej).2.2 o hj),
    h.bl.grown hg (Nat.le_trans h.c0 (Nat.le_trans h.n0 h.sz)) (fun j ej => Nat.le_trans h.c0 (own_at h.r3 ej).1), fun b hb h1 h2 => ?_, h.n0, Nat.le_trans h.sz hg.size, h.c0⟩
  · cases hu : u.ownBlock with
    | none => exact .inl rfl
    | some j => exact .inr fun e => rows_apart h.r4 h.r3 (by decide) j hu e.symm
  · rw [← h.oth b hb h1 h2]
    exact hg.block b (Nat.lt_of_lt_of_le hb (Nat.le_trans h.n0 h.sz)) (fun e => by have := (own_at h.r3 e.symm).1; omega)

theorem Two.grown4 (h : Two n₀ b3 b4 B0 W p q v k xs u m ys V) {u' : Value} {m' : Nat} {ys' : List Value} (ho : V'.ownsRow n₀ 3 1 u' m' ys') (hg : V.grownBy V' u.ownBlock) : Two n₀ b3 b4 B0 W p q v k xs u' m' ys' V' := by
  refine ⟨h.h3.kept hg (h.h3.not_row (by decide) h.r4), h.h4.kept hg (h.h4.not_row (by decide) h.r4), h.r3.kept hg ?_, ho, h.ko.trans (KeepsOthers.of_grownBy hg fun j o ej hj => (own_at h.r4 ej).2.2 o hj),
    h.bl.grown hg (Nat.le_trans h.c0 (Nat.le_trans h.n0 h.sz)) (fun j ej => Nat.le_trans h.c0 (own_at h.r4 ej).1), fun b hb h1 h2 => ?_, h.n0, Nat.le_trans h.sz hg.size, h.c0⟩
  · cases hu : v.ownBlock with
    | none => exact .inl rfl
    | some j => exact .inr fun e => rows_apart h.r3 h.r4 (by decide) j hu e.symm
  · rw [← h.oth b hb h1 h2]
    exact hg.block b (Nat.lt_of_lt_of_le hb (Nat.le_trans h.n0 h.sz)) (fun e => by have := (own_at h.r4 e.symm).1; omega)

theorem Two.set3 (h : Two n₀ b3 b4 B0 W p q v k xs u m ys V) (hne : b3 ≠ b4) (hB : B0 ≤ b3) (p' : Value) : Two n₀ b3 b4 B0 W p' q v k xs u m ys (V.setCell ⟨b3, 0, none⟩ p') :=
  ⟨h.h3.set p', h.h4.other hne.symm p', h.r3.kept (grownBy_setCell' V b3 p') (.inr (h.h3.not_row (by decide) h.r3).symm), h.r4.kept (grownBy_setCell' V b3 p') (.inr (h.h3.not_row (by decide) h.r4).symm),
    h.ko.trans (KeepsOthers.setCell _ _ _), h.bl.setCell (p := ⟨b3, 0, none⟩) hB p', fun b hb h1 h2 => (Below.heap_setCell _ _ _ b h1).trans (h.oth b hb h1 h2), h.n0, Nat.le_trans h.sz (KeepsWalks.setCell V _ p').size, h.c0⟩

theorem Two.set4 (h : Two n₀ b3 b4 B0 W p q v k xs u m ys V) (hne : b3 ≠ b4) (hB : B0 ≤ b4) (q' : Value) : Two n₀ b3 b4 B0 W p q' v k xs u m ys (V.setCell ⟨b4, 0, none⟩ q') :=
  ⟨h.h3.other hne q', h.h4.set q', h.r3.kept (grownBy_setCell' V b4 q') (.inr (h.h4.not_row (by decide) h.r3).symm), h.r4.kept (grownBy_setCell' V b4 q') (.inr (h.h4.not_row (by decide) h.r4).symm),
    h.ko.trans (KeepsOthers.setCell _ _ _), h.bl.setCell (p := ⟨b4, 0, none⟩) hB q', fun b hb h1 h2 => (Below.heap_setCell _ _ _ b h2).trans (h.oth b hb h1 h2), h.n0, Nat.le_trans h.sz (KeepsWalks.setCell V _ q').size, h.c0⟩

theorem Two.blk (h : Two n₀ b3 b4 B0 W p q v k xs u m ys V) {b : Nat} {t : TypeId} {cs : Array Value} (hb : b < n₀) (h1 : b ≠ b3) (h2 : b ≠ b4) (hk : Blk W b t cs) : Blk V b t cs := (h.oth b hb h1 h2).trans hk
end

theorem size_own {β : Type} (B n : Nat) : OwnFrom B (fun (_ : β) W => n ≤ W.heap.size) := fun _ _ _ _ h hg _ => Nat.le_trans h hg.size
end Go.Proofs.YtjnlgaeedcklaaaGreatDoor

namespace Go.Proofs.YtjnlgaeedcklaaaGreatDoor
open Go.RowKit

abbrev exE (x : Xs.Ex) : Array Value := exC x.second x.minute x.hour x.day x.month x.week x.anyDay x.anyWeek

theorem SixAt.kp {w w' : World} {g m d xb : Nat} (h : SixAt w g m d) (hk : Kp (fun j => j = xb) w w') {cs : Array Value} {t : TypeId} (hb : Blk w xb t cs) (h8 : cs.size = 8) (hm : xb < m) (hd : xb < d) : SixAt w' g m d := by
  have hg : g ≠ xb := by
    rintro rfl
    have h1 := h.cells 23 _ rfl
    rw [hb.cell 23, Array.getElem?_eq_none (by omega)] at h1
    cases h1
  have hN : ∀ (A : Nat) (l : List ByteArray), xb < A → Names w w.heap.size (some ⟨A, 0, none⟩) l → Names w' w'.heap.size (some ⟨A, 0, none⟩) l := by
    intro A l hA hn
    rcases hn with hn | ⟨b, off, e, hb', hc⟩
    · exact .inl hn
    · cases e
      exact .inr ⟨_, _, rfl, Nat.lt_of_lt_of_le hb' hk.size, fun j hj => (World.cell?_of_block (a := ⟨_, _, none⟩) (hk.block _ hb' (show ¬ (A = xb) by omega))).trans (hc j hj)⟩
  exact ⟨Nat.lt_of_lt_of_le h.lt hk.size, fun j u hu => (World.cell?_of_block (a := ⟨g, j, none⟩) (hk.block g h.lt hg)).trans (h.cells j u hu), hN m _ hm h.months, hN d _ hd h.days⟩

theorem row_cell {w : World} {base n k : Nat} {e : TypeId} {A : Option Addr} {c : Nat} {vs : List Value} {u : Value} (h : w.ownsRow base e 1 (.slice A n c) n vs) (hu : vs[k]? = some u) : ∃ g, A = some ⟨g, 0, none⟩ ∧ n ≤ c ∧ g < w.heap.size ∧ w.cell? ⟨g, k, none⟩ = some u := by
  rcases h.2 with ⟨_, hn⟩ | ⟨g, cap, cur, e1, _, hgb, hle, _, hsz, hcur⟩
  · have := h.1
    rw [hn, Nat.zero_mul] at this
    rw [List.eq_nil_of_length_eq_zero this] at hu
    cases hu
  · cases e1
    refine ⟨g, rfl, hle, (Array.getElem?_eq_some_iff.1 hgb).1, ?_⟩
    have hk : k < vs.length := (List.getElem?_eq_some_iff.1 hu).1
    rw [cell_of_row w g k cur e (0, 0) hgb, ← hu, ← hcur, List.getElem?_take_of_lt (by rw [h.1] at hk; exact hk), Array.getElem?_toList]

theorem put_cells {w : World} {g : Nat} (y : Xs.Ex) (s : Nat) (b : Bool) (h : Blk w g 25 (exE y)) : ∀ k, k < 6 → k ≠ 3 → k ≠ 5 → Blk (w.setCell ⟨g, k, none⟩ (.int .u64 s)) g 25 (exE (Xs.putX y k s b)) :=
  six_cases (p := fun k => k ≠ 3 → k ≠ 5 → Blk (w.setCell ⟨g, k, none⟩ (.int .u64 s)) g 25 (exE (Xs.putX y k s b)))
    (fun _ _ => h.set_ 0 _) (fun _ _ => h.set_ 1 _) (fun _ _ => h.set_ 2 _) (fun h3 => absurd rfl h3) (fun _ _ => h.set_ 4 _) (fun _ h5 => absurd rfl h5)
theorem put_cells3 {w : World} {g : Nat} (y : Xs.Ex) (s : Nat) (b : Bool) (h : Blk w g 25 (exE y)) : Blk ((w.setCell ⟨g, 3, none⟩ (.int .u64 s)).setCell ⟨g, 6, none⟩ (.bool b)) g 25 (exE (Xs.putX y 3 s b)) := (h.set_ 3 _).set_ 6 _
theorem put_cells5 {w : World} {g : Nat} (y : Xs.Ex) (s : Nat) (b : Bool) (h : Blk w g 25 (exE y)) : Blk ((w.setCell ⟨g, 5, none⟩ (.int .u64 s)).setCell ⟨g, 7, none⟩ (.bool b)) g 25 (exE (Xs.putX y 5 s b)) := (h.set_ 5 _).set_ 7 _

theorem ptr_cell (b : Nat) : ∀ k, k < 6 → (#[.pointer (some ⟨b, 0, none⟩), .pointer (some ⟨b, 1, none⟩), .pointer (some ⟨b, 2, none⟩), .pointer (some ⟨b, 3, none⟩), .pointer (some ⟨b, 4, none⟩), .pointer (some ⟨b, 5, none⟩)] : Array Value)[k]? = some (.pointer (some ⟨b, k, none⟩)) := six_cases rfl rfl rfl rfl rfl rfl

/-- The field that is read of the word k. -/
theorem take_next {n f k : Nat} {xs : List (Wd n)} {x : Wd n} {K : Nat → Fs.Kind} {l : List (Nat × Bool)} (hx : xs[k]? = some x) (hl : Xs.fields K f ((xs.take k).map encW) = .ok l) (h0 : (Fs.parse (K (f + k)) x.1.2.data.toList).2.2.2 = 0) :
    Xs.fields K f ((xs.take (k + 1)).map encW) = .ok (l ++ [((Fs.parse (K (f + k)) x.1.2.data.toList).1, (Fs.parse (K (f + k)) x.1.2.data.toList).2.1)]) := by
  have hk : k < xs.length := (List.getElem?_eq_some_iff.1 hx).1
  have e : ((xs.take k).map encW).length = k := by rw [List.length_map, List.length_take, Nat.min_eq_left (by omega)]
  rw [List.take_add_one, hx, Option.toList_some, List.map_append]
  have := Xs.fields_ok_next ((xs.take k).map encW) f (x.1.1) (x.1.2.data.toList) hl (by rw [e]; exact h0)
  rw [e] at this
  exact this
theorem take_bad {n f k : Nat} {xs : List (Wd n)} {x : Wd n} {K : Nat → Fs.Kind} {l : List (Nat × Bool)} (hx : xs[k]? = some x) (hl : Xs.fields K f ((xs.take k).map encW) = .ok l) (h0 : (Fs.parse (K (f + k)) x.1.2.data.toList).2.2.2 ≠ 0) :
    Xs.fields K f (xs.map encW) = .bad (x.1.1 + (Fs.parse (K (f + k)) x.1.2.data.toList).2.2.1) (Fs.parse (K (f + k)) x.1.2.data.toList).2.2.2 := by
  have hk : k < xs.length := (List.getElem?_eq_some_iff.1 hx).1
  have e : ((xs.take k).map encW).length = k := by rw [List.length_map, List.length_take, Nat.min_eq_left (by omega)]
  have h1 := Xs.fields_bad_next ((xs.take k).map encW) f (x.1.1) (x.1.2.data.toList) ((xs.drop (k + 1)).map encW) hl (by rw [e]; exact h0)
  rw [e] at h1
  have h2 : xs = xs.take k ++ x :: xs.drop (k + 1) := by
    have := List.take_append_drop k xs
    rw [List.drop_eq_getElem_cons hk, (List.getElem?_eq_some_iff.1 hx).2] at this
    exact this.symm
  rw [show xs.map encW = (xs.take k).map encW ++ (x.1.1, x.1.2.data.toList) :: (xs.drop (k + 1)).map encW from by
    refine (congrArg (List.map encW) h2).trans ?_
    rw [List.map_append, List.map_cons]
    rfl]
  exact h1
end Go.Proofs.YtjnlgaeedcklaaaGreatDoor

namespace Go.Proofs.YtjnlgaeedcklaaaGreatDoor
open Go.RowKit Go.Shelf
attribute [local go_sem] Oper.semAt_some

theorem info_int : (Tryz.prog.info? 3).map (fun i => (i.zero, i.size, i.bytes)) = some (some (.int .i64 0), 1, 8) := by kernel_rfl

theorem Blk.putObj {w : World} {g : Nat} {t : TypeId} {cs : Array Value} (h : Blk w g t cs) {D : Nat} (hne : g ≠ D) (o : Obj) : Blk (w.putObj D o) g t cs := (World.putObj_heap_other hne).trans h

/-- The zero expression's cells. -/
abbrev zeroC : Array Value := #[.int .u64 0, .int .u64 0, .int .u64 0, .int .u64 0, .int .u64 0, .int .u64 0, .bool false, .bool false]

/-- Between two rounds of the loop over the words: the blocks of the results, of the words and of the places. -/
def RdI (n : Nat) (w : World) (bE b1 b2 b3 b4 B : Nat) (pre : List (Wd n)) (W : World) : Prop :=
  ((∃ lv, Boxed W b3 58 lv ∧ W.ownsRow B 9 1 lv pre.length (pre.map fun x => .string x.1.2) ∧ pre.length ≤ 6) ∧
    (∃ pv, Boxed W b4 87 pv ∧ W.ownsRow B 3 1 pv pre.length (pre.map fun x => .int .i64 x.1.1) ∧ True)) ∧
    ((Blk W bE 25 zeroC ∧ Blk W b1 3 #[.int .i64 0]) ∧ Blk W b2 26 #[.int .i64 0]) ∧ Below w.heap.size w W ∧ B ≤ W.heap.size
/-- Where the loop over the words has ended early: behind the seventh. -/
def RdX (n : Nat) (w : World) (bE b1 b2 : Nat) (pre : List (Wd n)) (W : World) : Prop :=
  (∃ x : Wd n, (pre.length = 7 ∧ pre[6]? = some x) ∧ Blk W b1 3 #[.int .i64 x.1.1]) ∧ (Blk W bE 25 zeroC ∧ Blk W b2 26 #[.int .i64 10]) ∧ Below w.heap.size w W

theorem blk_own {β : Type} (g : Nat) (t : TypeId) (cs : Array Value) : Own (fun (_ : β) W => Blk W g t cs) := by
  intro s A B row h hg hr
  refine (hg.block g h.lt (fun e => ?_)).trans h
  obtain ⟨o, ho, hc⟩ := hr g e.symm
  unfold Blk at h
  rw [h] at ho
  cases ho
  cases hc

abbrev rdW (w : World) (s : ByteArray) : World := (((((w.alloc (.cells zeroC 25)).alloc (.cells #[.int .i64 0] 3)).alloc (.cells #[.int .i64 0] 26)).alloc (.cells #[.slice none 0 0] 58)).alloc (.cells #[.slice none 0 0] 87)).alloc (.cells #[.string s] 9)
theorem blk_at {w : World} {g : Nat} {t : TypeId} {cs : Array Value} (h : g = w.heap.size) : Blk (w.alloc (.cells cs t)) g t cs := by subst h; exact Blk.new w t cs
theorem read_laid (w : World) (s : ByteArray) : Blk (rdW w s) w.heap.size 25 zeroC ∧ Blk (rdW w s) (w.heap.size + 1) 3 #[.int .i64 0] ∧ Blk (rdW w s) (w.heap.size + 2) 26 #[.int .i64 0] ∧
    Blk (rdW w s) (w.heap.size + 3) 58 #[.slice none 0 0] ∧ Blk (rdW w s) (w.heap.size + 4) 87 #[.slice none 0 0] ∧ Blk (rdW w s) (w.heap.size + 5) 9 #[.string s] ∧ (rdW w s).heap.size = w.heap.size + 6 ∧ Below w.heap.size w (rdW w s) :=
  ⟨(((((blk_at rfl).alloc _).alloc _).alloc _).alloc _).alloc _, ((((blk_at (by simp)).alloc _).alloc _).alloc _).alloc _, (((blk_at (by simp)).alloc _).alloc _).alloc _, ((blk_at (by simp)).alloc _).alloc _, (blk_at (by simp)).alloc _, blk_at (by simp), by simp,
    ((((((Below.refl _ _).alloc (Nat.le_refl _) _).alloc (by simp) _).alloc (by simp <;> omega) _).alloc (by simp <;> omega) _).alloc (by simp <;> omega) _).alloc (by simp <;> omega) _⟩

theorem rdI_own (n : Nat) (w : World) (bE b1 b2 b3 b4 B : Nat) (h0 : w.heap.size ≤ B) : OwnFrom B (RdI n w bE b1 b2 b3 b4 B) :=
  OwnFrom.and (OwnFrom.and (Own.from (holdsRow_own B b3 58 9 1 (fun pre : List (Wd n) => pre.length) (fun pre => pre.map fun x => .string x.1.2) (fun pre _ => pre.length ≤ 6)) _) (Own.from (holdsRow_own B b4 87 3 1 (fun pre : List (Wd n) => pre.length) (fun pre => pre.map fun x => .int .i64 x.1.1) (fun _ _ => True)) _))
    (OwnFrom.and (OwnFrom.and (OwnFrom.and (Own.from (blk_own _ _ _) _) (Own.from (blk_own _ _ _) _)) (Own.from (blk_own _ _ _) _)) (OwnFrom.and (ownFrom_below (Nat.le_refl _) h0) (size_own _ _)))

/-- A store of eight cells. -/
abbrev put8 (w : World) (g : Nat) (y0 y1 y2 y3 y4 y5 y6 y7 : Value) : World := (((((((w.setCell ⟨g, 0, none⟩ y0).setCell ⟨g, 1, none⟩ y1).setCell ⟨g, 2, none⟩ y2).setCell ⟨g, 3, none⟩ y3).setCell ⟨g, 4, none⟩ y4).setCell ⟨g, 5, none⟩ y5).setCell ⟨g, 6, none⟩ y6).setCell ⟨g, 7, none⟩ y7
theorem Blk.set8 {w : World} {g : Nat} {t : TypeId} {a0 a1 a2 a3 a4 a5 a6 a7 : Value} (h : Blk w g t #[a0, a1, a2, a3, a4, a5, a6, a7]) (y0 y1 y2 y3 y4 y5 y6 y7 : Value) : Blk (put8 w g y0 y1 y2 y3 y4 y5 y6 y7) g t #[y0, y1, y2, y3, y4, y5, y6, y7] := by
  simpa using (((((((h.set_ 0 y0).set_ 1 y1).set_ 2 y2).set_ 3 y3).set_ 4 y4).set_ 5 y5).set_ 6 y6).set_ 7 y7
theorem Blk.far8 {w : World} {b g : Nat} {t : TypeId} {cs : Array Value} (h : Blk w b t cs) (hne : b ≠ g) (y0 y1 y2 y3 y4 y5 y6 y7 : Value) : Blk (put8 w g y0 y1 y2 y3 y4 y5 y6 y7) b t cs :=
  (((((((h.far (p := ⟨g, 0, none⟩) hne y0).far (p := ⟨g, 1, none⟩) hne y1).far (p := ⟨g, 2, none⟩) hne y2).far (p := ⟨g, 3, none⟩) hne y3).far (p := ⟨g, 4, none⟩) hne y4).far (p := ⟨g, 5, none⟩) hne y5).far (p := ⟨g, 6, none⟩) hne y6).far (p := ⟨g, 7, none⟩) hne y7
theorem below_set8 {B : Nat} {a w : World} (h : Below B a w) {g : Nat} (hg : B ≤ g) (y0 y1 y2 y3 y4 y5 y6 y7 : Value) : Below B a (put8 w g y0 y1 y2 y3 y4 y5 y6 y7) :=
  (((((((h.setCell (p := ⟨g, 0, none⟩) hg y0).setCell (p := ⟨g, 1, none⟩) hg y1).setCell (p := ⟨g, 2, none⟩) hg y2).setCell (p := ⟨g, 3, none⟩) hg y3).setCell (p := ⟨g, 4, none⟩) hg y4).setCell (p := ⟨g, 5, none⟩) hg y5).setCell (p := ⟨g, 6, none⟩) hg y6).setCell (p := ⟨g, 7, none⟩) hg y7
theorem ko_set {A W : World} (h : KeepsOthers A W) (p : Addr) (v : Value) : KeepsOthers A (W.setCell p v) := h.trans (KeepsOthers.setCell W p v)
theorem ko_set8 {A W : World} (h : KeepsOthers A W) (g : Nat) (y0 y1 y2 y3 y4 y5 y6 y7 : Value) : KeepsOthers A (put8 W g y0 y1 y2 y3 y4 y5 y6 y7) :=
  ko_set (ko_set (ko_set (ko_set (ko_set (ko_set (ko_set (ko_set h _ _) _ _) _ _) _ _) _ _) _ _) _ _) _ _

theorem rdX_own (n : Nat) (w : World) (bE b1 b2 B : Nat) (h0 : w.heap.size ≤ B) (c : Code) : OwnFrom B (fun (pre : List (Wd n)) W => c = .ret ∧ RdX n w bE b1 b2 pre W) := by
  rintro pre A A' row ⟨hc, ⟨x, hx, h1⟩, ⟨hE, h2⟩, hb⟩ hg hr
  exact ⟨hc, ⟨x, hx, blk_own (β := Unit) _ _ _ () _ _ _ h1 hg (fun r e => (hr r e).2)⟩, ⟨blk_own (β := Unit) _ _ _ () _ _ _ hE hg (fun r e => (hr r e).2), blk_own (β := Unit) _ _ _ () _ _ _ h2 hg (fun r e => (hr r e).2)⟩,
    ownFrom_below (β := Unit) (w₀ := w) (Nat.le_refl _) h0 () _ _ _ hb hg hr⟩

theorem owns_slice {w : World} {base : Nat} {e : TypeId} {size n : Nat} {v : Value} {xs : List Value} (h : w.ownsRow base e size v n xs) : ∃ A c, v = .slice A n c := by
  rcases h with ⟨hl, ⟨rfl, hn⟩ | ⟨g, cap, cur, rfl, _⟩⟩
  · exact ⟨none, 0, by rw [hn]⟩
  · exact ⟨_, _, rfl⟩

/-- What read and Parse return. -/
def retX (r : Xs.Ex × Nat × Int) : Value := .tuple #[exN r.1, .int .i64 r.2.1, .int .i64 r.2.2]
theorem retX_zero {r : Xs.Ex × Nat × Int} {p : Nat} {e : Int} (h : r = (Xs.Ex.zero, p, e)) : retX r = .tuple #[exV 0 0 0 0 0 0 false false, .int .i64 p, .int .i64 e] := by rw [h]; rfl

theorem read_seven {n : Nat} {K : Nat → Fs.Kind} {ws : List (Nat × List UInt8)} {len : Nat} {pre : List (Wd n)} {x : Wd n} (hS : pre.map encW <+: ws) (h7 : pre.length = 7) (hx : pre[6]? = some x) : Xs.read K ws len = (Xs.Ex.zero, x.1.1, 10) := by
  have h1 : 7 ≤ ws.length := by have := hS.length_le; rw [List.length_map, h7] at this; exact this
  have h2 : ws[6]? = some (encW x) := by
    obtain ⟨t, ht⟩ := hS
    rw [← ht, List.getElem?_append_left (by rw [List.length_map, h7]; decide), List.getElem?_map, hx]
    rfl
  rw [Xs.read, if_neg (by omega), if_pos (by omega), List.getD_eq_getElem?_getD, h2]
  rfl

theorem below_put {B : Nat} {a W : World} (h : Below B a W) {D : Nat} (hD : B ≤ D) (o : Obj) : Below B a (W.putObj D o) := by
  have hg := grownBy_putObj' W D o
  exact ⟨hg.os.trans h.os, hg.tape.trans h.tape, hg.output.trans h.output, Nat.le_trans h.size hg.size, fun i hi => (World.putObj_heap_other (by omega)).trans (h.block i hi)⟩

theorem rd_close {n : Nat} {w : World} {bE b1 b2 b3 b4 b5 n₀ : Nat} {W V : World} {v u : Value} (pre : List (Wd n)) (x : Wd n)
    (hZ : Two n₀ b3 b4 w.heap.size W v u v (pre.length + 1) ((pre.map fun x => Value.string x.1.2) ++ [Value.string x.1.2]) u (pre.length + 1) ((pre.map fun x => Value.int .i64 x.1.1) ++ [Value.int .i64 x.1.1]) V)
    (l1 : bE < b1) (l2 : b1 < b2) (l3 : b2 < b3) (l4 : b3 < b4) (l5 : b4 < b5) (l6 : b5 < n₀) (l0 : w.heap.size ≤ bE) (hle : pre.length + 1 ≤ 6)
    (hE : Blk W bE 25 zeroC) (h1 : Blk W b1 3 #[.int .i64 0]) (h2 : Blk W b2 26 #[.int .i64 0]) (hbw : Below w.heap.size w W) :
    KeepsFrom n₀ W V ∧ Kb b5 W V ∧ RdI n w bE b1 b2 b3 b4 n₀ (pre ++ [x]) V :=
  ⟨hZ.ko.from _, ⟨hZ.sz, hZ.oth b5 l6 (by omega) (by omega)⟩,
    ⟨⟨v, hZ.h3, by rw [List.length_append, List.map_append]; exact hZ.r3, by rw [List.length_append]; exact hle⟩, ⟨u, hZ.h4, by rw [List.length_append, List.map_append]; exact hZ.r4, trivial⟩⟩,
    ⟨⟨hZ.blk (by omega) (by omega) (by omega) hE, hZ.blk (by omega) (by omega) (by omega) h1⟩, hZ.blk (by omega) (by omega) (by omega) h2⟩, hbw.trans hZ.bl, Nat.le_trans hZ.n0 hZ.sz⟩

end Go.Proofs.YtjnlgaeedcklaaaGreatDoor
