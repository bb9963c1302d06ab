/-
  Contracts, by their trees; slices.Delete and slices.Insert at events: they rewrite a row of the run's own; slices.Delete at events; slices.Insert at events: the walks; slices.Insert at events.
-/
import Derived.Test.YtjabmipkllkfbaaGreatDoorYN
import Derived.Shelf.RegionOpenPlain
import Derived.WalkKit
import Derived.Deep.LoopGhost
import Derived.Deep.RegionLaw
import Derived.Lib.Walk
import Derived.Lib.AppendZeros
import Derived.Lib.Overlaps
import Derived.Test.YtjabmipkllkfbaaGreatDoorYT
import Derived.Lib.AppendZerosOnto
set_option linter.unusedVariables false
set_option linter.unusedSimpArgs false
set_option maxHeartbeats 4000000
namespace Go.Proofs.YtjabmipkllkfbaaGreatDoor.Vc
theorem flRow_get (k : Int) : ∀ (I : List Nat) (i j : Nat), I[i]? = some j → (flRow k I)[2 * i]? = some (.int .i64 k) ∧ (flRow k I)[2 * i + 1]? = some (.int .i64 (j : Int)) := by
 intro I
 induction I with
 | nil => intro i j h; simp at h
 | cons x I ih =>
  intro i j h
  cases i with
  | zero => simp at h; subst h; exact ⟨rfl, rfl⟩
  | succ i =>
   obtain ⟨h1, h2⟩ := ih i j (by simpa using h)
   rw [show 2 * (i + 1) = 2 * i + 1 + 1 by omega]
   exact ⟨h1, h2⟩
def eqF_pre (p : Option Addr) (n c : Nat) (p1 : Option Addr) (n1 c1 : Nat) (m : Mem) : Prop := ∃ k I, K.i64 k ∧ n = I.length ∧ n1 = I.length ∧ RowM m p (flRow k I) ∧ RowM m p1 (flRow k I) ∧ ∀ i ∈ I, i ≤ 1000000
def eqF_post (p : Option Addr) (n c : Nat) (p1 : Option Addr) (n1 c1 : Nat) (m : Mem) (b : Bool) : Prop := b = true
def eqF : Sp := { args := [.sl, .sl], grp := [none, none], res := [.b], rgrp := [none], fn := 10, spec := fun a0 a1 a2 a3 a4 a5 => (eqF_pre a0 a1 a2 a3 a4 a5, eqF_post a0 a1 a2 a3 a4 a5) }
def eqF_VC : Prop := ∀ m : Mem, ∀ (p0 : Option Addr) (n0 c0 : Nat), n0 ≤ 9223372036854775807 → c0 ≤ 9223372036854775807 → ∀ (p1 : Option Addr) (n1 c1 : Nat), n1 ≤ 9223372036854775807 → c1 ≤ 9223372036854775807 → eqF_pre p0 n0 c0 p1 n1 c1 m →
 (((n0 : Int) ≠ (n1 : Int) →
 (eqF_post p0 n0 c0 p1 n1 c1 m false)) ∧
 ((n0 : Int) = (n1 : Int) →
 (∃ F1 : Bool → Int → Prop × Nat, ((K.i64 0) ∧ (F1 false 0).1) ∧
 ∀ b0 : Bool, ∀ x4 : Int, mi ≤ x4 → x4 ≤ ma → (F1 b0 x4).1 →
 ((x4 < (n0 : Int) →
 (0 ≤ x4 ∧ (p0 ≠ none ∧ (HasI m p0 (0 + (x4 * 2)) 2 ∧ (0 ≤ x4 ∧ (x4 < (n1 : Int) ∧ (p1 ≠ none ∧ (HasI m p1 (0 + (x4 * 2)) 2 ∧ (∃ x5 : Int, cellI m p0 (0 + (x4 * 2)) = some (vI x5) ∧ (K.i64 x5) ∧ (∃ x6 : Int, cellI m p1 (0 + (x4 * 2)) = some (vI x6) ∧ (K.i64 x6) ∧ (∃ x7 : Int, cellI m p0 ((0 + (x4 * 2)) + 1) = some (vI x7) ∧ (K.i64 x7) ∧ (∃ x8 : Int, cellI m p1 ((0 + (x4 * 2)) + 1) = some (vI x8) ∧ (K.i64 x8) ∧ (((x5 = x6 → x7 ≠ x8) →
 (eqF_post p0 n0 c0 p1 n1 c1 m false)) ∧
 ((x5 = x6 ∧ x7 = x8) →
 ((x4 + 1) ≤ 9223372036854775807 ∧ ((mi ≤ (x4 + 1) ∧ (x4 + 1) ≤ ma) ∧ ((F1 b0 (x4 + 1)).1 ∧ (F1 b0 (x4 + 1)).2 < (F1 b0 x4).2))))))))))))))))) ∧
 ((n0 : Int) ≤ x4 →
 (eqF_post p0 n0 c0 p1 n1 c1 m true))))))
theorem eqF_vc : eqF_VC := by
 intro m p n c hn hc p1 n1 c1 hn1 hc1 ⟨k, I, hk, e1, e2, h1, h2, hI⟩
 subst e1
 refine ⟨fun h => absurd (by omega) h, fun _ => ⟨fun b y => (∃ i : Nat, y = i ∧ i ≤ I.length, ((I.length : Int) - y).toNat), ⟨by constructor <;> decide, 0, rfl, by omega⟩, ?_⟩⟩
 rintro b y ky1 ky2 ⟨i, rfl, hi⟩
 refine ⟨fun hlt => ?_, fun _ => rfl⟩
 have hj : I[i]? = some (I[i]'(by omega)) := List.getElem?_eq_getElem _
 have hjm := hI _ (List.mem_of_getElem? hj)
 obtain ⟨g1, g2⟩ := flRow_get k I i _ hj
 have a1 := (h1.int g1 hk).to (b := 0 + (i : Int) * 2) (by omega)
 have a2 := (h1.int g2 (k64 (by omega) (by omega))).to (b := (0 + (i : Int) * 2) + 1) (by omega)
 have b1 := (h2.int g1 hk).to (b := 0 + (i : Int) * 2) (by omega)
 have b2 := (h2.int g2 (k64 (by omega) (by omega))).to (b := (0 + (i : Int) * 2) + 1) (by omega)
 have two : ∀ {q : Option Addr} {x y : Int}, IntAt m q (0 + (i : Int) * 2) x → IntAt m q ((0 + (i : Int) * 2) + 1) y → HasI m q (0 + (i : Int) * 2) 2 := by
  intro q x y u v
  refine (hasI_of (by omega) fun j hj => ?_).2
  rcases (by omega : j = 0 ∨ j = 1) with rfl | rfl
  ·exact ⟨_, by simpa using u.1⟩
  ·exact ⟨_, v.1⟩
 exact ⟨by omega, a1.ne, two a1 a2, by omega, by omega, b1.ne, two b1 b2, _, a1.1, a1.2, _, b1.1, b1.2, _, a2.1, a2.2, _, b2.1, b2.2, fun h => absurd rfl (h rfl), fun _ => ⟨by omega, k64 (by omega) (by omega), ⟨i + 1, by omega, by omega⟩, by first | omega | (simp only; omega)⟩⟩
theorem eqF_ok : SpOk Tryz.prog eqF :=
 con_ok (sps_of [] trivial rfl) (tab_ok _ [⟨(26, 4), [], [], [], []⟩]) 1000 eqF _ rfl rfl (Eq.mp (show eqF_VC = _ by kernel_rfl) eqF_vc)
end Go.Proofs.YtjabmipkllkfbaaGreatDoor.Vc
namespace Go.Proofs.YtjabmipkllkfbaaGreatDoor.Vc
open Go.RowKit Go.Lib
section
variable {P : Program}
theorem wpList_copy_ex (w : World) {ops : Array Oper} {rest : List Oper} {o : Oper} {a : Act} {Q : Exit → Act → World → Prop} (hgd : o.guard = none) (d s : Operand) (t t' : TypeId)
  (ho : o.op = .call { callee := .builtin .copy, args := #[d, s], argTypes := #[t, t'] }) (v u : Value) (hd : a.eval d = v) (hs : a.eval s = u) {v' : Value} {w' : World}
  (hr : (Builtin.copy_ #[t, t'] o.type #[v, u]).run P w = .ok v' w') (h : wpList P ops Q rest (a.put o.dst v') w') : wpList P ops Q (o :: rest) a w :=
 wpList_plain hgd fun _ hK => by
  unfold Oper.wp execOp
  simp only [ho, resolve, invoke, builtin, Sem.run_bind, Sem.run_pure, Result.andThen_ok, List.map_toArray, List.map_cons, List.map_nil, hd, hs, hr]
  exact hK _ _ h
theorem step_copy_ex {ops : Array Oper} {o : Oper} {a : Act} {w : World} {K : Act → World → Prop} {Q : Exit → Act → World → Prop} {E : Prop}
  (hg : o.guard = none) (d x : Operand) (dT sT : TypeId) (hop : o.op = Op.call { callee := Callee.builtin Builtin.copy, args := #[d, x], argTypes := #[dT, sT] })
  (v u : Value) (hd : a.eval d = v) (hx : a.eval x = u) {v' : Value} {w' : World} (hr : (Builtin.copy_ #[dT, sT] o.type #[v, u]).run P w = .ok v' w') (hK : K (a.put o.dst v') w') :
  if Region.wanted o (yielded ops a.tmps) = true then Oper.wp P o a w K Q else E := by
 have hw : Region.wanted o (yielded ops a.tmps) = true := by simp [Region.wanted, hg]
 rw [if_pos hw]
 unfold Oper.wp
 simp [execOp, hop, resolve, invoke, builtin, hd, hx, hr, Result.andThen]
 exact hK
theorem step_append_ex {ops : Array Oper} {o : Oper} {a : Act} {w : World} {K : Act → World → Prop} {Q : Exit → Act → World → Prop} {E : Prop}
  (hg : o.guard = none) (d x : Operand) (dT sT : TypeId) (hop : o.op = Op.call { callee := Callee.builtin Builtin.append, args := #[d, x], argTypes := #[dT, sT] })
  (v u : Value) (hd : a.eval d = v) (hx : a.eval x = u) {v' : Value} {w' : World} (hr : (Builtin.append_ #[dT, sT] o.type #[v, u]).run P w = .ok v' w') (hK : K (a.put o.dst v') w') :
  if Region.wanted o (yielded ops a.tmps) = true then Oper.wp P o a w K Q else E := by
 have hw : Region.wanted o (yielded ops a.tmps) = true := by simp [Region.wanted, hg]
 rw [if_pos hw]
 unfold Oper.wp
 simp [execOp, hop, resolve, invoke, builtin, hd, hx, hr, Result.andThen]
 exact hK
theorem setAll_at : ∀ (vs m A r : List Value), m.length = vs.length → setAll (A ++ (m ++ r)) A.length vs = A ++ (vs ++ r) := by
 intro vs
 induction vs with
 | nil => intro m A r h; have : m = [] := List.length_eq_zero_iff.1 h; subst this; rfl
 | cons v vs ih =>
  intro m A r h
  cases m with
  | nil => cases h
  | cons x m =>
   simp only [setAll]
   have e : (A ++ (x :: m ++ r)).set A.length v = (A ++ [v]) ++ (m ++ r) := by
    rw [List.set_append_right _ _ (Nat.le_refl _), Nat.sub_self]
    simp
   have h' : m.length = vs.length := by simpa using h
   have := ih m (A ++ [v]) r h'
   rw [List.length_append, show [v].length = 1 from rfl] at this
   rw [e, this]
   simp
structure Rest (b : Nat) (w w' : World) : Prop where
 heap : ∀ k, k ≠ b → w'.heap[k]? = w.heap[k]?
 size : w'.heap.size = w.heap.size
 os : w'.os = w.os
 tape : w'.tape = w.tape
 output : w'.output = w.output
theorem Rest.trans {b : Nat} {w w1 w2 : World} (h : Rest b w w1) (h' : Rest b w1 w2) : Rest b w w2 :=
 ⟨fun k hk => (h'.heap k hk).trans (h.heap k hk), h'.size.trans h.size, h'.os.trans h.os, h'.tape.trans h.tape, h'.output.trans h.output⟩
theorem Rest.drew (b : Nat) (w : World) : Rest b w w.drew := ⟨fun _ _ => rfl, rfl, rfl, rfl, rfl⟩
theorem store_at {w : World} {b o : Nat} {A m r vs : List Value} {e : TypeId} {fz : Nat × Nat} (hb : w.heap[b]? = some (.cells (A ++ (m ++ r)).toArray e fz)) (hf : NoFz fz (A ++ (m ++ r)).length) (ho : o = A.length) (hm : m.length = vs.length) (h1 : ∀ v ∈ vs, v.oneCell' = true) :
  ∃ w', (storeCells ⟨b, o, none⟩ vs).run P w = .ok () w' ∧ w'.heap[b]? = some (.cells (A ++ (vs ++ r)).toArray e fz) ∧ Rest b w w' := by
 subst ho
 obtain ⟨w', k1, k2, k3, k4, k5, k6, k7⟩ := run_storeCells_own (P := P) b A.length e fz vs 0 _ w hb hf (by simp; omega) h1
 rw [Nat.add_zero, setAll_at vs m A r hm] at k2
 exact ⟨w', k1, k2, k3, k4, k5, k6, k7⟩
theorem load_at {w : World} {b o n size c : Nat} {A m r : List Value} {e : TypeId} {fz : Nat × Nat} (hb : w.heap[b]? = some (.cells (A ++ (m ++ r)).toArray e fz)) (ho : o = A.length) (hm : m.length = n * size) (hs : 0 < size) (k : Nat) :
  (Builtin.firstCells size n (.slice (some ⟨b, o, none⟩) k c)).run P w = .ok m.toArray w := by
 have hrun := run_loadCells_list (P := P) w ⟨b, o, none⟩ m (fun j x hx => by
  subst ho
  rw [add_at]
  have hj := (List.getElem?_eq_some_iff.1 hx).1
  simp only [World.cell?, hb]
  simp only [List.getElem?_toArray, Option.isSome_none]
  rw [List.getElem?_append_right (by omega), Nat.add_sub_cancel_left, List.getElem?_append_left hj, hx]
  try rfl)
 rw [hm] at hrun
 exact hrun
theorem clear_at {w : World} {t el : TypeId} {ti : TI} {z : AV} {g : G} (hG : GOk P g) (ht : P.underlying t = some (.slice el)) (hte : g.ty.get el = some ti) (hz : ti.zero = some z) (hzs : llen z.cells = ti.size) (hzo : allOne z.cells = true) {b o n dc : Nat} {A M r : List Value} {e : TypeId} {fz : Nat × Nat}
  (hb : w.heap[b]? = some (.cells (A ++ (M ++ r)).toArray e fz)) (hz' : NoFz fz (A ++ (M ++ r)).length) (ho : o = A.length) (hm : M.length = (n + 1) * ti.size) :
  ∃ w' zs, (∀ ty, (Builtin.clear_ #[t] ty #[.slice (some ⟨b, o, none⟩) (n + 1) dc]).run P w = .ok (.tuple #[]) w') ∧ zs.length = (n + 1) * ti.size ∧ w'.heap[b]? = some (.cells (A ++ (zs ++ r)).toArray e fz) ∧ Rest b w w' := by
 obtain ⟨i, zv, hi, hiz, his, hzc, hzl'⟩ := zero_conc (V := noE { σ := [], β := [], ς := [], τ := [], ρ := [], mem := fun _ => none, mem0 := fun _ => none }) hG hte hz
 have hlen : (repl (n + 1) zv.cells.toList).length = (n + 1) * ti.size := by rw [repl_length, concL_len hzl', ← hzs, llen_eq]
 have hone : ∀ x ∈ repl (n + 1) zv.cells.toList, x.oneCell' = true := by
  intro x hx
  have : ∀ k, x ∈ repl k zv.cells.toList → x ∈ zv.cells.toList := by
   intro k
   induction k with
   | zero => intro h; cases h
   | succ k ih => intro h; simp only [repl] at h; rcases List.mem_append.1 h with h | h; exact h; exact ih h
  exact allOne_oneCell hzl' hzo x (this _ hx)
 obtain ⟨w', k1, k2, k3⟩ := store_at (P := P) hb hz' ho (hm.trans hlen.symm) hone
 refine ⟨w', _, fun ty => ?_, hlen, k2, k3⟩
 simp only [Builtin.clear_, List.getElem?_toArray, List.getElem?_cons_zero, Sem.run_bind, run_underlying ht, Result.andThen_ok, Sem.run_pure, zeroValue, typeInfo, run_program, hi, hiz, zeroCells_eq, k1]
end
end Go.Proofs.YtjabmipkllkfbaaGreatDoor.Vc
namespace Go.Proofs.YtjabmipkllkfbaaGreatDoor.Vc
open Go.RowKit Go.Lib
theorem ev_info : Tryz.prog.info? 33 = some Tryz.t33 := by kernel_rfl
theorem ev_size : Tryz.t33.size = 8 := by kernel_rfl
theorem ev_bytes : Tryz.t33.bytes = 64 := by kernel_rfl
theorem ev_te : ∃ te, (tabK [] []).ty.get 33 = some te ∧ te.size = 8 ∧ te.bytes = 64 ∧ ∃ z, te.zero = some z ∧ llen z.cells = te.size ∧ allOne z.cells = true := by
 have h : (match (tabK [] []).ty.get 33 with | some te => Nat.beq te.size 8 && Nat.beq te.bytes 64 && (match te.zero with | some z => Nat.beq (llen z.cells) te.size && allOne z.cells | none => false) | none => false) = true := by kernel_rfl
 split at h
 ·rename_i te hte
  simp only [nbeq, Bool.and_eq_true, decide_eq_true_eq] at h
  obtain ⟨⟨h1, h2⟩, h3⟩ := h
  split at h3
  ·rename_i z hz
   simp only [nbeq, Bool.and_eq_true, decide_eq_true_eq] at h3
   exact ⟨te, hte, h1, h2, z, hz, h3.1, h3.2⟩
  ·cases h3
 ·cases h
def evTU : TI := { desc := .slice 33, size := 1, bytes := 24, zero := none }
set_option maxRecDepth 100000 in
theorem del_walk (w W1 W2 : World) (b n c i j : Nat) (A : Option Addr) (hcap : n ≤ c) (hm : c ≤ 9223372036854775807) (hlt : i < j) (hj : j ≤ n)
  (hA : (if c = j then some (⟨b, 0, none⟩ : Addr) else some ⟨b, j * 8, none⟩) = A)
  (happ : ∀ ty, (Builtin.append_ #[31, 31] ty #[.slice (some ⟨b, 0, none⟩) i c, .slice A (n - j) (c - j)]).run Tryz.prog w.drew = .ok (.slice (some ⟨b, 0, none⟩) (i + (n - j)) c) W1)
  (hcl : ∀ ty, (Builtin.clear_ #[31] ty #[.slice (some ⟨b, (i + (n - j)) * 8, none⟩) (n - (i + (n - j))) (c - (i + (n - j)))]).run Tryz.prog W1 = .ok (.tuple #[]) W2) :
  Calls Tryz.prog 8 #[.slice (some ⟨b, 0, none⟩) n c, .int .i64 (i : Int), .int .i64 (j : Int)] w fun e w' => e = .returned (.slice (some ⟨b, 0, none⟩) (i + (n - j)) c) ∧ w' = W2 := by
 have hic : i ≤ c := by omega
 have hjc : j ≤ c := by omega
 have mixed : Tryz.prog.follows .mixedOrders = true := by kernel_rfl
 go_enter Tryz.func8, Tryz.ntmps8
 go_wp2_with fail
 go_region_law_o (refine step_append_ex rfl (.tmp 22) (.tmp 25) 31 31 rfl (.slice (some ⟨b, 0, none⟩) i c) (.slice A (n - j) (c - j)) (by simp [Act.eval, Act.put]) (by simp [Act.eval, Act.put, ← hA]) (happ _) ?_)
 go_wp2
 go_ret
 exact ⟨rfl, rfl⟩
theorem w_drew (w : World) : ({ w.drew with drawn := w.drew.drawn } : World) = w.drew := rfl
theorem del_ok : EdOk Tryz.prog 8 false 33 := by
 intro w b n c i l rest vs fz ie X hie hsz hb hbk hfz hall hll h1 hnc hc63 hl1 hv1 hcase
 rw [if_neg (by simp)] at hcase
 obtain ⟨hi, rfl, rfl⟩ := hcase
 simp only [Bool.false_eq_true, if_false]
 rw [ev_info] at hie; cases hie
 rw [ev_size] at hall hll ⊢
 obtain ⟨te, hte, hs8, _, z, hz, hzs, hzo⟩ := ev_te
 have hG : GOk Tryz.prog (tabK [] []) := tab_ok [] []
 have ht := Tryz.underlying31
 obtain ⟨L1, hL1⟩ : ∃ x, x = l.take (i * 8) := ⟨_, rfl⟩
 obtain ⟨D, hD⟩ : ∃ x, x = l.drop ((i + 1) * 8) := ⟨_, rfl⟩
 obtain ⟨C1, hC1⟩ : ∃ x, x = (l.drop (i * 8)).take D.length := ⟨_, rfl⟩
 obtain ⟨C2, hC2⟩ : ∃ x, x = (l.drop (i * 8)).drop D.length := ⟨_, rfl⟩
 have lL1 : L1.length = i * 8 := by rw [hL1, List.length_take]; omega
 have lD : D.length = (n - (i + 1)) * 8 := by rw [hD, List.length_drop]; omega
 have lC1 : C1.length = D.length := by rw [hC1, List.length_take, List.length_drop]; omega
 have lC2 : C2.length = 8 := by rw [hC2, List.length_drop, List.length_drop]; omega
 have hl : l = L1 ++ (C1 ++ C2) := by rw [hL1, hC1, hC2, List.take_append_drop, List.take_append_drop]
 have hrow : l ++ rest = L1 ++ (C1 ++ (C2 ++ rest)) := by rw [hl]; simp
 have oneD : ∀ x ∈ D, x.oneCell' = true := fun x hx => hl1 x (by rw [hD] at hx; exact List.mem_of_mem_drop hx)
 rw [hrow] at hbk
 have hfz' : NoFz fz (L1 ++ (C1 ++ (C2 ++ rest))).length := by rw [← hrow, List.length_append]; exact hfz
 have hcell : ∀ j x, D[j]? = some x → w.drew.cell? ⟨b, (i + 1) * 8 + j, none⟩ = some x := fun j x hx => by
  have hj := (List.getElem?_eq_some_iff.1 hx).1
  show w.cell? _ = _
  simp only [World.cell?, hbk, ← hrow, Option.isSome_none, Bool.false_eq_true, if_false, List.getElem?_toArray]
  rw [List.getElem?_append_left (by omega)]
  rw [hD, List.getElem?_drop] at hx
  exact hx
 obtain ⟨A, hA⟩ : ∃ A, (if c = i + 1 then some (⟨b, 0, none⟩ : Addr) else some ⟨b, (i + 1) * 8, none⟩) = A := ⟨_, rfl⟩
 have hfirst := slice_first (P := Tryz.prog) (w := w.drew) (n := n - (i + 1)) (c := c - (i + 1)) (size := 8) (q := A) (l := D) lD (fun e => by rw [← hA] at e; split at e <;> cases e) (fun a ha j x hx => by
  have hj := (List.getElem?_eq_some_iff.1 hx).1
  rw [← hA] at ha
  split at ha
  ·omega
  ·cases ha; rw [add_at]; exact hcell j x hx) (by omega) w.drew.drawn
 rw [w_drew] at hfirst
 obtain ⟨W1, s1, s2, s3⟩ := store_at (P := Tryz.prog) (w := w.drew) (b := b) (o := i * 8) (A := L1) (m := C1) (r := C2 ++ rest) (vs := D) hbk hfz' lL1.symm lC1 oneD
 have happ : ∀ ty, (Builtin.append_ #[31, 31] ty #[.slice (some ⟨b, 0, none⟩) i c, .slice A (n - (i + 1)) (c - (i + 1))]).run Tryz.prog w.drew = .ok (.slice (some ⟨b, 0, none⟩) (i + (n - (i + 1))) c) W1 := fun ty =>
  append_fit (tu := evTU) (zeros := false) (vs := D) (n := n - (i + 1)) hG ht hte ⟨ht, rfl, (fun h => by cases h), by rw [hs8]; exact lD, fun _ => ⟨by simp [Builtin.lenOf], by rw [hs8]; exact hfirst⟩⟩ (by omega) (by rw [add_at, Nat.zero_add, hs8]; exact s1)
 have hrow1 : L1 ++ (D ++ (C2 ++ rest)) = (L1 ++ D) ++ (C2 ++ rest) := by simp
 rw [hrow1] at s2
 have hlen1 : ((L1 ++ D) ++ (C2 ++ rest)).length = l.length + rest.length := by
  rw [← List.length_append, hrow]; simp only [List.length_append]; omega
 obtain ⟨W2, zs, k1, k2, k3, k4⟩ := clear_at (w := W1) (b := b) (o := (i + (n - (i + 1))) * 8) (n := 0) (dc := c - (i + (n - (i + 1)))) hG ht hte hz hzs hzo s2 (by rw [hlen1]; exact hfz) (by rw [List.length_append, lL1, lD]; omega) (by rw [lC2, hs8])
 have e1 : n - (i + (n - (i + 1))) = 0 + 1 := by omega
 refine (del_walk w W1 W2 b n c i (i + 1) A hnc hc63 (by omega) (by omega) hA happ (fun ty => by rw [e1]; exact k1 ty)).mono ?_
 rintro r w' ⟨rfl, rfl⟩
 have hrs := ((Rest.drew b w).trans s3).trans k4
 have e2 : i + (n - (i + 1)) = n - 1 := by omega
 have lz : zs.length = 8 := by rw [k2, hs8]
 refine ⟨b, c, _, zs ++ rest, fz, by rw [e2], rfl, ?_, ?_, ?_, by omega, hc63, .inl rfl, by rw [hrs.size]; exact Nat.le_refl _, hrs.os, hrs.tape, hrs.output, fun k _ hk => hrs.heap k hk⟩
 ·rw [k3, ← hL1, ← hD]; simp
 ·have : (List.take (i * 8) l ++ ([] ++ List.drop ((i + 1) * 8) l)).length + (zs ++ rest).length = l.length + rest.length := by
   rw [← hL1, ← hD]; simp only [List.length_append, List.length_nil]; omega
  rw [this]; exact hfz
 ·rw [← hL1, ← hD]; simp only [List.length_append, List.length_nil]; omega
end Go.Proofs.YtjabmipkllkfbaaGreatDoor.Vc
namespace Go.Proofs.YtjabmipkllkfbaaGreatDoor.Vc
open Go.RowKit Go.Lib
set_option maxRecDepth 100000 in
theorem ins_walk1 (w W1 : World) (b n c vb vo vc : Nat) (R : Value) (hcap : n ≤ c) (hm : c ≤ 9223372036854775807)
  (happ : ∀ ty, (Builtin.append_ #[31, 31] ty #[.slice (some ⟨b, 0, none⟩) n c, .slice (some ⟨vb, vo, none⟩) 1 vc]).run Tryz.prog w = .ok R W1) :
  Calls Tryz.prog 12 #[.slice (some ⟨b, 0, none⟩) n c, .int .i64 (n : Int), .slice (some ⟨vb, vo, none⟩) 1 vc] w fun e w' => e = .returned R ∧ w' = W1 := by
 have mixed : Tryz.prog.follows .mixedOrders = true := by kernel_rfl
 go_enter Tryz.func12, Tryz.ntmps12
 go_wp2_with (at_builtin; refine Lib.wpList_append_run _ rfl _ _ _ _ rfl _ _ rfl rfl _ _ (happ _) ?_)
 all_goals (go_ret; exact ⟨rfl, rfl⟩)
set_option maxRecDepth 100000 in
theorem ins_walk3 (w W1 W2 : World) (b n c i vb vo vc : Nat) (k1 k2 : Int) (hi : i < n) (hroom : n + 1 ≤ c) (hm : c ≤ 9223372036854775807)
  (hov : ∀ lb cb, (callFunc 32 #[.slice (some ⟨vb, vo, none⟩) 1 vc, .slice (some ⟨b, (i + 1) * 8, none⟩) lb cb]).run Tryz.prog w = .ok (.value (.bool false)) w)
  (hc1 : ∀ ty dc sc, (Builtin.copy_ #[31, 31] ty #[.slice (some ⟨b, (i + 1) * 8, none⟩) (n - i) dc, .slice (some ⟨b, i * 8, none⟩) (n + 1 - i) sc]).run Tryz.prog w.drew = .ok (.int .i64 k1) W1)
  (hc2 : ∀ ty dc, (Builtin.copy_ #[31, 31] ty #[.slice (some ⟨b, i * 8, none⟩) (n + 1 - i) dc, .slice (some ⟨vb, vo, none⟩) 1 vc]).run Tryz.prog W1 = .ok (.int .i64 k2) W2) :
  Calls Tryz.prog 12 #[.slice (some ⟨b, 0, none⟩) n c, .int .i64 (i : Int), .slice (some ⟨vb, vo, none⟩) 1 vc] w fun e w' => e = .returned (.slice (some ⟨b, 0, none⟩) (n + 1) c) ∧ w' = W2 := by
 have mixed : Tryz.prog.follows .mixedOrders = true := by kernel_rfl
 have hz2 : ¬ ((i : Int) = (n : Int)) := by omega
 have hw1 : IntKind.i64.wrap ((i : Int) + 1) = (i : Int) + 1 := by rw [IntKind.wrap_i64]; omega
 have hw2 : IntKind.i64.wrap ((n : Int) + 1) = (n : Int) + 1 := by rw [IntKind.wrap_i64]; omega
 have hb1 : (0 : Int) ≤ (i : Int) + 1 := by omega
 have hin : i ≤ n := by omega
 have htn : ((i : Int) + 1).toNat = i + 1 := by omega
 have hb2 : ¬ (c = i + 1) := by omega
 have hb3 : (i : Int) ≤ (n : Int) + 1 := by omega
 have hb4 : ¬ (c = i) := by omega
 go_enter Tryz.func12, Tryz.ntmps12
 go_wp2_with (simp only [hov])
 go_region_law_o (refine step_copy_ex rfl _ _ 31 31 rfl _ _ (by simp [Act.eval, Act.put]) (by simp [Act.eval, Act.put]) (hc1 _ _ _) ?_)
 go_wp2_with (at_builtin; refine wpList_copy_ex _ rfl _ _ 31 31 rfl _ _ rfl rfl (hc2 _ _) ?_)
 go_ret
 exact ⟨rfl, rfl⟩
set_option maxRecDepth 100000 in
theorem ins_walk4 (w W1 W2 W3 : World) (b n c i vb vo vc q G : Nat) (k1 k2 : Int) (hi : i < n) (hnc : n ≤ c) (hroom : c < n + 1) (hm : c ≤ 9223372036854775806) (hG1 : n + 1 ≤ G) (hG2 : G ≤ 9223372036854775807)
  (happ : ∀ ty, (Builtin.append_ #[31, 3] ty #[.slice (some ⟨b, 0, none⟩) i c, .int .i64 ((n : Int) + 1 - (i : Int))]).run Tryz.prog w = .ok (.slice (some ⟨q, 0, none⟩) (n + 1) G) W1)
  (hc1 : ∀ ty dc, (Builtin.copy_ #[31, 31] ty #[.slice (some ⟨q, i * 8, none⟩) (n + 1 - i) dc, .slice (some ⟨vb, vo, none⟩) 1 vc]).run Tryz.prog W1 = .ok (.int .i64 k1) W2)
  (hc2 : ∀ ty dc sc, (Builtin.copy_ #[31, 31] ty #[.slice (some ⟨q, (i + 1) * 8, none⟩) (n - i) dc, .slice (some ⟨b, i * 8, none⟩) (n - i) sc]).run Tryz.prog W2.drew = .ok (.int .i64 k2) W3) :
  Calls Tryz.prog 12 #[.slice (some ⟨b, 0, none⟩) n c, .int .i64 (i : Int), .slice (some ⟨vb, vo, none⟩) 1 vc] w fun e w' => e = .returned (.slice (some ⟨q, 0, none⟩) (n + 1) G) ∧ w' = W3 := by
 have mixed : Tryz.prog.follows .mixedOrders = true := by kernel_rfl
 have hz2 : ¬ ((i : Int) = (n : Int)) := by omega
 have hz3 : (c : Int) < (n : Int) + 1 := by omega
 have hw1 : IntKind.i64.wrap ((i : Int) + 1) = (i : Int) + 1 := by rw [IntKind.wrap_i64]; omega
 have hw2 : IntKind.i64.wrap ((n : Int) + 1) = (n : Int) + 1 := by rw [IntKind.wrap_i64]; omega
 have hw3 : IntKind.i64.wrap ((n : Int) + 1 - (i : Int)) = (n : Int) + 1 - (i : Int) := by rw [IntKind.wrap_i64]; omega
 have hb1 : (0 : Int) ≤ (i : Int) + 1 := by omega
 have hin : i ≤ n := by omega
 have hic : i ≤ c := by omega
 have htn : ((i : Int) + 1).toNat = i + 1 := by omega
 have hb2 : ¬ (G = i + 1) := by omega
 have hb3 : (i : Int) ≤ (n : Int) + 1 := by omega
 have hb4 : ¬ (G = i) := by omega
 have hb5 : ¬ (c = i) := by omega
 have hb6 : (i : Int) ≤ (n : Int) := by omega
 go_enter Tryz.func12, Tryz.ntmps12
 go_wp2_with (first
  | (at_builtin; refine Lib.wpList_append_run _ rfl _ _ _ _ rfl _ _ rfl rfl _ _ (happ _) ?_)
  | (at_builtin; refine wpList_copy_ex _ rfl _ _ 31 31 rfl _ _ rfl rfl (hc1 _ _) ?_))
 go_region_law_o (refine step_copy_ex rfl _ _ 31 31 rfl (.slice (some ⟨q, (i + 1) * 8, none⟩) (n - i) (G - (i + 1))) (.slice (some ⟨b, i * 8, none⟩) (n - i) (c - i)) (by simp [Act.eval, Act.put]) (by simp [Act.eval, Act.put]) (hc2 _ _ _) ?_)
 go_wp2
 go_ret
 exact ⟨rfl, rfl⟩
end Go.Proofs.YtjabmipkllkfbaaGreatDoor.Vc
namespace Go.Proofs.YtjabmipkllkfbaaGreatDoor.Vc
open Go.RowKit Go.Lib
theorem load_v {W : World} {vb vo vc : Nat} {cs : Array Value} {tv : TypeId} {fv : Nat × Nat} {vs : List Value} (hvl : vs.length = 8) (hvs : ∀ (j : Nat) (v : Value), vs[j]? = some v → cs[vo + j]? = some v) (h : W.heap[vb]? = some (.cells cs tv fv)) :
  (Builtin.firstCells 8 1 (.slice (some ⟨vb, vo, none⟩) 1 vc)).run Tryz.prog W = .ok vs.toArray W := by
 have hrun := run_loadCells_list (P := Tryz.prog) W ⟨vb, vo, none⟩ vs (fun j x hx => by
  rw [add_at]
  simp only [World.cell?, h, Option.isSome_none, Bool.false_eq_true, if_false]
  exact hvs j x hx)
 rw [hvl] at hrun
 exact hrun
set_option maxRecDepth 10000 in
theorem over_apart {w : World} {b vb vo vc : Nat} {L : List Value} {cs : Array Value} {tv : TypeId} {fv fz : Nat × Nat} (hvb : vb ≠ b) (hvk : w.heap[vb]? = some (.cells cs tv fv)) (hbk : w.heap[b]? = some (.cells L.toArray 33 fz)) (hL : L.length ≠ 0) (hfv : NoFz fv (cs.size + 1)) (hvo : vo < cs.size) (lb cb o : Nat) :
  (callFunc 32 #[.slice (some ⟨vb, vo, none⟩) 1 vc, .slice (some ⟨b, o, none⟩) lb cb]).run Tryz.prog w = .ok (.value (.bool false)) w := by
 have h1 : w.shape? vb = some (tv, cs.size) := by simp only [World.shape?, hvk]
 have h2 : w.shape? b = some (33, L.length) := by simp [World.shape?, hbk]
 have h3 : ∀ o, o < cs.size + 1 → w.frozen? ⟨vb, o, none⟩ = false := fun o ho => by
  simp only [World.frozen?, hvk]
  have := hfv o ho
  simp only [Bool.and_eq_false_iff, decide_eq_false_iff_not]
  omega
 rw [run_callFunc_extern Tryz.func32 (by kernel_rfl) (by kernel_rfl) (by kernel_rfl) (e := Extern.SlicesOverlaps.overlaps #[31, 31] #[4]) (by kernel_rfl),
  Lib.run_overlaps_apart w 31 4 33 Tryz.underlying31 8 Tryz.sizeOf33 ⟨vb, vo, none⟩ ⟨b, o, none⟩ 1 vc lb cb hvb tv 33 cs.size L.length h1 h2 hL (h3 vo (by omega)) (h3 cs.size (by omega))]
 rfl
theorem zero_len {z : Value} (h : z.cells.size = 8) (n : Nat) : (repl n z.cells.toList).length = n * 8 := by rw [repl_length]; simp [h]
theorem ins_ok : EdOk Tryz.prog 12 true 33 := by
 intro w b n c i l rest vs fz ie X hie hsz hb hbk hfz hall hll h1 hnc hc63 hl1 hv1 hcase
 rw [if_pos rfl] at hcase
 obtain ⟨hlim, hin, hvl, vb, vo, vc, cs, tv, fv, hvb, rfl, hvk, hfv, hvs⟩ := hcase
 simp only [if_true]
 rw [ev_info] at hie; cases hie
 rw [ev_size] at hall hll hvl ⊢
 rw [ev_bytes] at hlim
 obtain ⟨te, hte, hs8, hb64, z, hz, hzs, hzo⟩ := ev_te
 have hG : GOk Tryz.prog (tabK [] []) := tab_ok [] []
 have ht := Tryz.underlying31
 have hvf : ∀ W : World, W.heap[vb]? = some (.cells cs tv fv) → (Builtin.firstCells 8 1 (.slice (some ⟨vb, vo, none⟩) 1 vc)).run Tryz.prog W = .ok vs.toArray W := fun W h => load_v hvl hvs h
 have hvo : vo < cs.size := by
  have h0 : vs[0]? = some (vs[0]'(by omega)) := List.getElem?_eq_getElem (by omega)
  have := hvs 0 _ h0
  exact (Array.getElem?_eq_some_iff.1 this).1
 have hsv : ∀ d, Src Tryz.prog 33 te 31 evTU false 1 (.slice (some ⟨vb, vo, none⟩) 1 vc) vs { w with drawn := d } := fun d =>
  ⟨ht, rfl, (fun h => by cases h), by rw [hs8, hvl], fun _ => ⟨by simp [Builtin.lenOf], by rw [hs8]; exact hvf _ hvk⟩⟩
 by_cases hi : i = n
 ·subst hi
  have e1 : l.take (i * 8) = l := List.take_of_length_le (by omega)
  have e2 : l.drop (i * 8) = [] := List.drop_eq_nil_of_le (by omega)
  rw [e1, e2, List.append_nil]
  by_cases hroom : i + 1 ≤ c
  ·have hrow : l ++ rest = l ++ (rest.take 8 ++ rest.drop 8) := by rw [List.take_append_drop]
   have hr8 : (rest.take 8).length = vs.length := by rw [List.length_take, hvl]; omega
   rw [hrow] at hbk
   obtain ⟨W1, s1, s2, s3⟩ := store_at (P := Tryz.prog) (w := w) (b := b) (o := i * 8) (A := l) (m := rest.take 8) (r := rest.drop 8) (vs := vs) hbk (by rw [← hrow, List.length_append]; exact hfz) hll.symm hr8 hv1
   refine (ins_walk1 w W1 b i c vb vo vc (.slice (some ⟨b, 0, none⟩) (i + 1) c) hnc hc63 (fun ty => append_fit hG ht hte (hsv w.drawn) hroom (by rw [add_at, Nat.zero_add, hs8]; exact s1))).mono ?_
   rintro r w' ⟨rfl, rfl⟩
   have hlen : (l ++ vs).length + (rest.drop 8).length = l.length + rest.length := by
    rw [List.length_append, List.length_drop, hvl]; rw [List.length_take] at hr8; omega
   refine ⟨b, c, _, rest.drop 8, fz, rfl, rfl, by rw [s2]; simp, by rw [hlen]; exact hfz, by rw [hlen]; exact hall, hroom, hc63, .inl rfl, by rw [s3.size]; exact Nat.le_refl _, s3.os, s3.tape, s3.output, fun k _ hk => s3.heap k hk⟩
  ·have hold : ∀ d, (Builtin.firstCells te.size i (.slice (some ⟨b, 0, none⟩) i c)).run Tryz.prog { w with drawn := d } = .ok l.toArray { w with drawn := d } := fun d => by
    rw [hs8]
    exact load_at (w := { w with drawn := d }) (A := []) (m := l) (r := rest) hbk rfl hll (by omega) i
   obtain ⟨cap, rest', a1, a2, a3, a4⟩ := append_grow (ty := 31) (base := some ⟨b, 0, none⟩) hG ht hte hsv (by omega) (by rw [hb64]; omega) (by rw [hb64]; exact hlim) hold (by rw [hs8]; exact hll) (zero_run hG hte hz hzs _)
   refine (ins_walk1 w _ b i c vb vo vc _ hnc hc63 (fun ty => a4)).mono ?_
   rintro r w' ⟨rfl, rfl⟩
   have hlen : (l ++ vs).length + rest'.length = cap * 8 := by
    rw [List.length_append, Nat.add_comm l.length, a3, hs8]
   refine ⟨w.heap.size, cap, _, rest', (0, 0), rfl, rfl, by rw [heap_alloc]; exact if_pos rfl, NoFz0 _, hlen, a1, a2, .inr (Nat.le_refl _), by rw [size_alloc]; show w.heap.size ≤ w.heap.size + 1; omega, rfl, rfl, rfl, fun k hk _ => ?_⟩
   rw [heap_alloc]; exact if_neg (show k ≠ w.heap.size by omega)
 ·have hi' : i < n := by omega
  obtain ⟨L1, hL1⟩ : ∃ x, x = l.take (i * 8) := ⟨_, rfl⟩
  obtain ⟨D, hD⟩ : ∃ x, x = l.drop (i * 8) := ⟨_, rfl⟩
  have lL1 : L1.length = i * 8 := by rw [hL1, List.length_take]; omega
  have lD : D.length = (n - i) * 8 := by rw [hD, List.length_drop]; omega
  have hl : l = L1 ++ D := by rw [hL1, hD, List.take_append_drop]
  have oneD : ∀ x ∈ D, x.oneCell' = true := fun x hx => hl1 x (by rw [hD] at hx; exact List.mem_of_mem_drop hx)
  have hrow0 : l ++ rest = L1 ++ (D ++ rest) := by rw [hl]; simp
  rw [← hL1, ← hD]
  by_cases hroom : n + 1 ≤ c
  ·obtain ⟨X1, hX1⟩ : ∃ x, x = (D ++ rest).take 8 := ⟨_, rfl⟩
   obtain ⟨Y1, hY1⟩ : ∃ x, x = ((D ++ rest).drop 8).take D.length := ⟨_, rfl⟩
   obtain ⟨R1, hR1⟩ : ∃ x, x = ((D ++ rest).drop 8).drop D.length := ⟨_, rfl⟩
   have lX : X1.length = 8 := by rw [hX1, List.length_take, List.length_append]; omega
   have lY : Y1.length = D.length := by rw [hY1, List.length_take, List.length_drop, List.length_append]; omega
   have hXY : D ++ rest = X1 ++ (Y1 ++ R1) := by rw [hX1, hY1, hR1, List.take_append_drop, List.take_append_drop]
   have hrow1 : l ++ rest = (L1 ++ X1) ++ (Y1 ++ R1) := by rw [hrow0, hXY]; simp
   have hlenA : ((L1 ++ X1) ++ (Y1 ++ R1)).length = l.length + rest.length := by rw [← hrow1, List.length_append]
   have hb0 : w.drew.heap[b]? = some (.cells (L1 ++ (D ++ rest)).toArray 33 fz) := by rw [← hrow0]; exact hbk
   have hb1 : w.drew.heap[b]? = some (.cells ((L1 ++ X1) ++ (Y1 ++ R1)).toArray 33 fz) := by rw [← hrow1]; exact hbk
   have hld := fun k sc => load_at (P := Tryz.prog) (w := w.drew) (b := b) (o := i * 8) (n := n - i) (size := 8) (c := sc) (A := L1) (m := D) (r := rest) hb0 lL1.symm lD (by omega) k
   obtain ⟨W1, s1, s2, s3⟩ : ∃ W1, (∀ ty dc sc, (Builtin.copy_ #[31, 31] ty #[.slice (some ⟨b, (i + 1) * 8, none⟩) (n - i) dc, .slice (some ⟨b, i * 8, none⟩) (n + 1 - i) sc]).run Tryz.prog w.drew = .ok (goInt ((n - i : Nat) : Int)) W1) ∧ W1.heap[b]? = some (.cells ((L1 ++ X1) ++ (D ++ R1)).toArray 33 fz) ∧ Rest b w.drew W1 := by
    obtain ⟨W1, k1, k2, k3⟩ := store_at (P := Tryz.prog) (w := w.drew) (b := b) (o := (i + 1) * 8) (A := L1 ++ X1) (m := Y1) (r := R1) (vs := D) hb1 (by rw [hlenA]; exact hfz) (by rw [List.length_append, lL1, lX]; omega) lY oneD
    refine ⟨W1, fun ty dc sc => ?_, k2, k3⟩
    have hsz' := run_sizeOf' (w := w.drew) (hG.ty _ _ hte)
    have hl' : (Builtin.lenOf (.slice (some ⟨b, i * 8, none⟩) (n + 1 - i) sc)).run Tryz.prog w.drew = .ok (n + 1 - i) w.drew := by simp [Builtin.lenOf]
    have hmin : Nat.min (n + 1 - i) (n - i) = n - i := Nat.min_eq_right (by omega)
    simp only [Builtin.copy_, List.getElem?_toArray, List.getElem?_cons_zero, List.getElem?_cons_succ, Sem.run_bind, run_underlying ht, Result.andThen_ok, hl', hsz', hs8, hmin, hld, k1, Sem.run_pure]
   have hv1' : W1.heap[vb]? = some (.cells cs tv fv) := (s3.heap vb hvb).trans hvk
   have hb2 : W1.heap[b]? = some (.cells (L1 ++ (X1 ++ (D ++ R1))).toArray 33 fz) := by rw [s2]; simp
   have hlenB : (L1 ++ (X1 ++ (D ++ R1))).length = l.length + rest.length := by
    rw [← hlenA]; simp only [List.length_append]; omega
   obtain ⟨W2, c1, c2, c3⟩ : ∃ W2, (∀ ty dc, (Builtin.copy_ #[31, 31] ty #[.slice (some ⟨b, i * 8, none⟩) (n + 1 - i) dc, .slice (some ⟨vb, vo, none⟩) 1 vc]).run Tryz.prog W1 = .ok (goInt ((1 : Nat) : Int)) W2) ∧ W2.heap[b]? = some (.cells (L1 ++ (vs ++ (D ++ R1))).toArray 33 fz) ∧ Rest b W1 W2 := by
    obtain ⟨W2, k1, k2, k3⟩ := store_at (P := Tryz.prog) (w := W1) (b := b) (o := i * 8) (A := L1) (m := X1) (r := D ++ R1) (vs := vs) hb2 (by rw [hlenB]; exact hfz) lL1.symm (by rw [lX, hvl]) hv1
    refine ⟨W2, fun ty dc => ?_, k2, k3⟩
    have hsz' := run_sizeOf' (w := W1) (hG.ty _ _ hte)
    have hl' : (Builtin.lenOf (.slice (some ⟨vb, vo, none⟩) 1 vc)).run Tryz.prog W1 = .ok 1 W1 := by simp [Builtin.lenOf]
    have hmin : Nat.min 1 (n + 1 - i) = 1 := Nat.min_eq_left (by omega)
    simp only [Builtin.copy_, List.getElem?_toArray, List.getElem?_cons_zero, List.getElem?_cons_succ, Sem.run_bind, run_underlying ht, Result.andThen_ok, hl', hsz', hs8, hmin, hvf W1 hv1', k1, Sem.run_pure]
   refine (ins_walk3 w W1 W2 b n c i vb vo vc _ _ hi' hroom hc63 (fun lb cb => over_apart hvb hvk hbk (by rw [List.length_append, hll]; omega) hfv hvo lb cb _) s1 c1).mono ?_
   rintro r w' ⟨rfl, rfl⟩
   have hrs := ((Rest.drew b w).trans s3).trans c3
   have hlenC : (L1 ++ (vs ++ D)).length + R1.length = l.length + rest.length := by
    rw [← hlenB]; simp only [List.length_append]; omega
   refine ⟨b, c, _, R1, fz, rfl, rfl, by rw [c2]; simp, by rw [hlenC]; exact hfz, by rw [hlenC]; exact hall, hroom, hc63, .inl rfl, by rw [hrs.size]; exact Nat.le_refl _, hrs.os, hrs.tape, hrs.output, fun k _ hk => hrs.heap k hk⟩
  ·-- a new row
   have hb0 : w.heap[b]? = some (.cells (L1 ++ (D ++ rest)).toArray 33 fz) := by rw [← hrow0]; exact hbk
   have hbw : b < w.heap.size := (Array.getElem?_eq_some_iff.1 hb0).1
   have hvw : vb < w.heap.size := (Array.getElem?_eq_some_iff.1 hvk).1
   obtain ⟨iz, zv, hi0, hz0, his, hzc, hzl⟩ := zero_conc (V := noE { σ := [], β := [], ς := [], τ := [], ρ := [], mem := fun _ => none, mem0 := fun _ => none }) hG hte hz
   have hzs8 : zv.cells.size = 8 := by
    have := concL_len hzl
    rw [← Array.length_toList, this, ← llen_eq, hzs, hs8]
   have hi1 : iz = Tryz.t33 := by rw [ev_info] at hi0; cases hi0; rfl
   subst hi1
   have hold : (Builtin.firstCells Tryz.t33.size i (.slice (some ⟨b, 0, none⟩) i c)).run Tryz.prog w.drew = .ok L1.toArray w.drew := by
    rw [ev_size]
    exact load_at (w := w.drew) (A := []) (m := L1) (r := D ++ rest) hb0 rfl lL1 (by omega) i
   have hik : i + (n + 1 - i) = n + 1 := by omega
   have hrz := fun ty => Lib.run_append_grow_zeros w 31 3 ty 33 Tryz.t33 zv .i64 .i64 ht Tryz.underlying3 hi0 hz0 (some ⟨b, 0, none⟩) i c L1 hold (n + 1 - i) (by omega) (by rw [ev_size]; omega) (by omega) (by omega) (by rw [ev_bytes]; omega) (by rw [ev_bytes, hik]; exact growslice_fits (by omega) (by omega))
   rw [hik] at hrz
   obtain ⟨G, hGd⟩ : ∃ G, G = grownCap w (n + 1) c 33 := ⟨_, rfl⟩
   rw [← hGd] at hrz
   have hGn : n + 1 ≤ G := by rw [hGd]; exact grownCap_ge w _ _ _
   have hG63 : G ≤ 9223372036854775807 := by
    have := grownCap_le_maxLen w (n + 1) c 33 (by unfold maxLen; omega)
    rw [← hGd] at this
    unfold maxLen at this
    omega
   rw [zeroCells_eq, zeroCells_eq] at hrz
   obtain ⟨Z1, hZ1⟩ : ∃ x, x = repl (n + 1 - i) zv.cells.toList := ⟨_, rfl⟩
   obtain ⟨Z2, hZ2⟩ : ∃ x, x = repl (G - (n + 1)) zv.cells.toList := ⟨_, rfl⟩
   have lZ1 : Z1.length = (n + 1 - i) * 8 := by rw [hZ1]; exact zero_len hzs8 _
   have lZ2 : Z2.length = (G - (n + 1)) * 8 := by rw [hZ2]; exact zero_len hzs8 _
   rw [← hZ1, ← hZ2] at hrz
   obtain ⟨W1, hW1⟩ : ∃ W1, W1 = w.drew.alloc (.cells (L1.toArray ++ Z1.toArray ++ Z2.toArray) 33) := ⟨_, rfl⟩
   rw [← hW1] at hrz
   obtain ⟨q, hq⟩ : ∃ q, q = w.heap.size := ⟨_, rfl⟩
   rw [← hq] at hrz
   have hq1 : W1.heap[q]? = some (.cells (L1 ++ (Z1.take 8 ++ (Z1.drop 8 ++ Z2))).toArray 33 (0, 0)) := by
    have e : L1 ++ (Z1.take 8 ++ (Z1.drop 8 ++ Z2)) = L1 ++ Z1 ++ Z2 := by
     rw [← List.append_assoc (Z1.take 8), List.take_append_drop, List.append_assoc]
    have hA : L1.toArray ++ Z1.toArray ++ Z2.toArray = (L1 ++ (Z1.take 8 ++ (Z1.drop 8 ++ Z2))).toArray := by
     rw [e]; apply Array.ext'; simp only [Array.toList_append]
    rw [hW1, heap_alloc, if_pos (show q = w.drew.heap.size from hq), hA]
   have hk1 : ∀ k, k < w.heap.size → W1.heap[k]? = w.heap[k]? := fun k hk => by
    rw [hW1, heap_alloc]; exact if_neg (show k ≠ w.heap.size by omega)
   have hs1 : W1.heap.size = w.heap.size + 1 := by rw [hW1, size_alloc]; rfl
   have ho1 : W1.os = w.os ∧ W1.tape = w.tape ∧ W1.output = w.output := by rw [hW1]; exact ⟨rfl, rfl, rfl⟩
   clear hW1
   have lz8 : (Z1.take 8).length = 8 := by rw [List.length_take]; omega
   obtain ⟨W2, c1, c2, c3⟩ : ∃ W2, (∀ ty dc, (Builtin.copy_ #[31, 31] ty #[.slice (some ⟨q, i * 8, none⟩) (n + 1 - i) dc, .slice (some ⟨vb, vo, none⟩) 1 vc]).run Tryz.prog W1 = .ok (goInt ((1 : Nat) : Int)) W2) ∧ W2.heap[q]? = some (.cells (L1 ++ (vs ++ (Z1.drop 8 ++ Z2))).toArray 33 (0, 0)) ∧ Rest q W1 W2 := by
    obtain ⟨W2, k1, k2, k3⟩ := store_at (P := Tryz.prog) (w := W1) (b := q) (o := i * 8) (A := L1) (m := Z1.take 8) (r := Z1.drop 8 ++ Z2) (vs := vs) hq1 (NoFz0 _) lL1.symm (by rw [lz8, hvl]) hv1
    refine ⟨W2, fun ty dc => ?_, k2, k3⟩
    have hsz' := run_sizeOf' (w := W1) (hG.ty _ _ hte)
    have hl' : (Builtin.lenOf (.slice (some ⟨vb, vo, none⟩) 1 vc)).run Tryz.prog W1 = .ok 1 W1 := by simp [Builtin.lenOf]
    have hmin : Nat.min 1 (n + 1 - i) = 1 := Nat.min_eq_left (by omega)
    simp only [Builtin.copy_, List.getElem?_toArray, List.getElem?_cons_zero, List.getElem?_cons_succ, Sem.run_bind, run_underlying ht, Result.andThen_ok, hl', hsz', hs8, hmin, hvf W1 ((hk1 vb hvw).trans hvk), k1, Sem.run_pure]
   have hb2 : W2.drew.heap[b]? = some (.cells (L1 ++ (D ++ rest)).toArray 33 fz) := (c3.heap b (by omega)).trans ((hk1 b hbw).trans hb0)
   have hq2 : W2.drew.heap[q]? = some (.cells ((L1 ++ vs) ++ (Z1.drop 8 ++ Z2)).toArray 33 (0, 0)) := by
    show W2.heap[q]? = _
    rw [c2]; simp
   have hld := fun k sc => load_at (P := Tryz.prog) (w := W2.drew) (b := b) (o := i * 8) (n := n - i) (size := 8) (c := sc) (A := L1) (m := D) (r := rest) hb2 lL1.symm lD (by omega) k
   obtain ⟨W3, d1, d2, d3⟩ : ∃ W3, (∀ ty dc sc, (Builtin.copy_ #[31, 31] ty #[.slice (some ⟨q, (i + 1) * 8, none⟩) (n - i) dc, .slice (some ⟨b, i * 8, none⟩) (n - i) sc]).run Tryz.prog W2.drew = .ok (goInt ((n - i : Nat) : Int)) W3) ∧ W3.heap[q]? = some (.cells ((L1 ++ vs) ++ (D ++ Z2)).toArray 33 (0, 0)) ∧ Rest q W2.drew W3 := by
    obtain ⟨W3, k1, k2, k3⟩ := store_at (P := Tryz.prog) (w := W2.drew) (b := q) (o := (i + 1) * 8) (A := L1 ++ vs) (m := Z1.drop 8) (r := Z2) (vs := D) hq2 (NoFz0 _) (by rw [List.length_append, lL1, hvl]; omega) (by rw [List.length_drop, lZ1, lD]; omega) oneD
    refine ⟨W3, fun ty dc sc => ?_, k2, k3⟩
    have hsz' := run_sizeOf' (w := W2.drew) (hG.ty _ _ hte)
    have hl' : (Builtin.lenOf (.slice (some ⟨b, i * 8, none⟩) (n - i) sc)).run Tryz.prog W2.drew = .ok (n - i) W2.drew := by simp [Builtin.lenOf]
    have hmin : Nat.min (n - i) (n - i) = n - i := Nat.min_self _
    simp only [Builtin.copy_, List.getElem?_toArray, List.getElem?_cons_zero, List.getElem?_cons_succ, Sem.run_bind, run_underlying ht, Result.andThen_ok, hl', hsz', hs8, hmin, hld, k1, Sem.run_pure]
   have hkk : ((n + 1 - i : Nat) : Int) = (n : Int) + 1 - (i : Int) := by omega
   rw [hkk] at hrz
   refine (ins_walk4 w W1 W2 W3 b n c i vb vo vc q G _ _ hi' hnc (by omega) (by omega) hGn hG63 hrz c1 d1).mono ?_
   rintro r w' ⟨rfl, rfl⟩
   have hrs := (c3.trans (Rest.drew q W2)).trans d3
   have hlenC : (L1 ++ (vs ++ D)).length + Z2.length = G * 8 := by
    simp only [List.length_append]; omega
   refine ⟨q, G, _, Z2, (0, 0), rfl, rfl, by rw [d2]; simp, NoFz0 _, hlenC, hGn, hG63, .inr (by omega), by rw [hrs.size, hs1]; omega, hrs.os.trans ho1.1, hrs.tape.trans ho1.2.1, hrs.output.trans ho1.2.2, fun k hk _ => (hrs.heap k (by omega)).trans (hk1 k hk)⟩
end Go.Proofs.YtjabmipkllkfbaaGreatDoor.Vc
