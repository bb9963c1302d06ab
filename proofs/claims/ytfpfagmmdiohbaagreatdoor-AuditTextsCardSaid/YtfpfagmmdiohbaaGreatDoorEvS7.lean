/-
  The engine is sound, 7: append, copy, conversions.
-/
import Derived.Test.YtfpfagmmdiohbaaGreatDoorEvS6
set_option linter.unusedVariables false
set_option linter.unusedSimpArgs false
namespace Go.Proofs.YtfpfagmmdiohbaaGreatDoor.Ev
open Go.RowKit

/-- What an operation does that is no call. -/
def Goes (P : Program) (B : World) (V : Env) (v : AV) (s' : S) (m : World → Result Value) (w : World) : Prop :=
  ∃ V' x w', Ext V V' ∧ Rel P V' s' B w' ∧ v.conc V' = some x ∧ m w = .ok x w'

section
variable {P : Program} {g : G} {V : Env} {s s' : S} {B w : World}

theorem run_firstCells_slice (hR : Rel P V s B w) {id off n len size cap : Nat} {l : List AV} {p : Nat × Nat} (h : loadC s id off (n * size) = some l) (hp : V.E id = some p) :
    ∃ vs, concL V l = some vs ∧ vs.length = n * size ∧ (Builtin.firstCells size n (.slice (some ⟨p.1, off, none⟩) len cap)).run P w = .ok vs.toArray w := by
  obtain ⟨vs, h1, h2, h3⟩ := loadC_ok hR h hp
  refine ⟨vs, h1, h2, ?_⟩
  simp only [Builtin.firstCells, ← h2]
  exact run_loadCells_list w _ vs (fun j x hx => by rw [add_at]; exact h3 j x hx)

theorem bytesA_conc (V : Env) : ∀ (l : List UInt8), concL V (bytesA l) = some (l.map fun b => .int .u8 b.toNat) := by
  intro l
  induction l with
  | nil => rfl
  | cons b l ih => exact concL_mk rfl ih

theorem zeroCells_eq (z : Array Value) (n : Nat) : Builtin.zeroCells z n = (repl n z.toList).toArray := zeros_eq z n

/-- The cells that are appended, and how many elements they are. -/
theorem appCells_ok (hG : GOk P g V.σ) (hR : Rel P V s B w) {t : TypeId} {te tu : TI} {y : AV} {Y : Value} {zeros : Bool} {n : Nat} {new : List AV} (hte : g.ty.get t = some te) (h : appCells s te y zeros = some (n, new)) (hY : y.conc V = some Y)
    (hz : zeros = true ↔ ∃ k, tu.desc = .int k) :
    ∃ vs, concL V new = some vs ∧ vs.length = n * te.size ∧
      (if zeros then (∃ k, Y = .int k n) ∧ n ≤ 1000000 ∧ te.bytes ≤ 1000000 ∧ (∀ w, (do pure (Builtin.zeroCells (← zeroValue t).cells n) : Sem (Array Value)).run P w = .ok vs.toArray w)
       else (Builtin.lenOf Y).run P w = .ok n w ∧ (Builtin.firstCells te.size n Y).run P w = .ok vs.toArray w) := by
  unfold appCells at h
  cases zeros with
  | true =>
    simp only [cond_true] at h
    split at h
    · rename_i m z hm hzz
      cases c : (Nat.ble m 1000000 && Nat.ble te.bytes 1000000 && Nat.beq (llen z.cells) te.size) with
      | false => rw [c] at h; cases h
      | true =>
        rw [c] at h; simp only [cond_true, Option.some.injEq, Prod.mk.injEq] at h
        obtain ⟨rfl, rfl⟩ := h
        rw [llen_eq] at c
        simp only [nble, nbeq, Bool.and_eq_true, decide_eq_true_eq] at c
        obtain ⟨i, zv, hi, hiz, his, hzc, hzl⟩ := zero_conc hG hte hzz hR.τ
        have hlen := concL_len hzl
        obtain ⟨k, hk⟩ := natOf_ok hm hY
        refine ⟨_, repl_conc hzl m, by rw [repl_length, hlen, c.2], ?_⟩
        simp only [if_true]
        refine ⟨⟨k, hk⟩, c.1.1, c.1.2, fun w => ?_⟩
        simp only [zeroValue, typeInfo, Sem.run_bind, run_program, Result.andThen_ok, hi, Sem.run_pure, hiz, zeroCells_eq]
    · cases h
  | false =>
    simp only [cond_false] at h
    unfold srcCells at h
    split at h
    · cases h
      simp only [AV.conc] at hY; cases hY
      exact ⟨[], rfl, by simp, by simp [Builtin.lenOf, Builtin.firstCells]⟩
    · rename_i id off len cp sk
      split at h
      · rename_i l hl; cases h
        obtain ⟨p, hp, rfl⟩ := conc_slice hY
        obtain ⟨vs, h1, h2, h3⟩ := run_firstCells_slice (len := n) (cap := capOf cp p.2 sk) hR hl hp
        exact ⟨vs, h1, h2, by simp only [Bool.false_eq_true, if_false]; exact ⟨rfl, h3⟩⟩
      · cases h
    · rename_i l
      cases c1 : Nat.beq te.size 1 with
      | false => rw [c1] at h; cases h
      | true =>
      rw [c1] at h; cases h
      have c1' : te.size = 1 := by simpa using c1
      simp only [AV.conc] at hY; cases hY
      refine ⟨_, bytesA_conc V l, by rw [c1', llen_eq]; simp, ?_⟩
      have hs : (⟨l.toArray⟩ : ByteArray).size = l.length := by simp [ByteArray.size]
      simp only [Bool.false_eq_true, if_false, llen_eq]
      refine ⟨by simp [Builtin.lenOf, hs], ?_⟩
      simp only [Builtin.firstCells, Sem.run_pure]
      congr 1
      apply Array.ext'
      simp [ByteArray.data_extract]
    · cases h


theorem growBy_le : ∀ (r n c : Nat), c < n → 256 ≤ c → Builtin.growBy n r c ≤ 2 * n := by
  intro r
  induction r with
  | zero => intro n c h _; simp only [Builtin.growBy]; omega
  | succ r ih =>
    intro n c h h2
    simp only [Builtin.growBy]
    split
    · omega
    · by_cases h3 : c + (c + 768) / 4 < n
      · exact ih n _ h3 (by omega)
      · cases r with
        | zero => simp only [Builtin.growBy]; omega
        | succ r => simp only [Builtin.growBy]; split <;> omega
theorem nextcap_le (need old : Nat) (h : old < need) : Builtin.nextslicecap need old ≤ 2 * need := by
  unfold Builtin.nextslicecap
  split
  · omega
  · split
    · omega
    · exact growBy_le 4 need old h (by omega)

/-- What 'append' asks of its second argument. -/
structure Src (P : Program) (e : TypeId) (te : TI) (u : TypeId) (tu : TI) (zeros : Bool) (n : Nat) (Y : Value) (vs : List Value) (w : World) : Prop where
  und : P.underlying u = some tu.desc
  zk : zeros = (match tu.desc with | .int _ => true | _ => false)
  z : zeros = true → (∃ k, Y = .int k n) ∧ n ≤ 1000000 ∧ te.bytes ≤ 1000000 ∧ (∀ w, (do pure (Builtin.zeroCells (← zeroValue e).cells n) : Sem (Array Value)).run P w = .ok vs.toArray w)
  len : vs.length = n * te.size
  nz : zeros = false → (Builtin.lenOf Y).run P w = .ok n w ∧ (Builtin.firstCells te.size n Y).run P w = .ok vs.toArray w

theorem wrap_nat {n : Nat} (h : n ≤ 9223372036854775807) : IntKind.i64.wrap (n : Int) = n := wrap_id (by simp [IntKind.min, IntKind.signed, IntKind.bits] <;> omega) (by rw [IntKind.max_i64]; omega)

theorem append_fit (hG : GOk P g V.σ) {t e u : TypeId} {te tu : TI} {zeros : Bool} {n sLen sCap : Nat} {Y : Value} {vs : List Value} {a : Addr} {ty : TypeId} {w' : World} (ht : P.underlying t = some (.slice e)) (hte : g.ty.get e = some te)
    (hS : Src P e te u tu zeros n Y vs w) (hfit : sLen + n ≤ sCap) (hst : (storeCells (a.add (sLen * te.size)) vs).run P w = .ok () w') :
    (Builtin.append_ #[t, u] ty #[.slice (some a) sLen sCap, Y]).run P w = .ok (.slice (some a) (sLen + n) sCap) w' := by
  have hsz := run_sizeOf' (w := w) (hG.ty _ _ hte)
  obtain ⟨bi, hbi, hbs⟩ := run_bytes (w := w) (hG.ty _ _ hte)
  cases zeros with
  | true =>
    obtain ⟨⟨k, rfl⟩, h1, h2, h3⟩ := hS.z rfl
    have hd : ∃ k, tu.desc = .int k := by
      have := hS.zk
      cases hdd : tu.desc <;> rw [hdd] at this <;> first | exact ⟨_, rfl⟩ | cases this
    obtain ⟨kd, hkd⟩ := hd
    have hund := hS.und; rw [hkd] at hund
    have hw0 : IntKind.i64.wrap (n : Int) = n := wrap_nat (by omega)
    have hneg : ¬ ((n : Int) < 0) := by omega
    have hbig : ¬ ((n : Int) * (bi.bytes : Int) > 2 ^ 48) := by
      rw [hbs]
      have : n * te.bytes ≤ 1000000 * 1000000 := Nat.mul_le_mul h1 h2
      have e48 : (2 : Int) ^ 48 = 281474976710656 := by decide
      rw [e48]
      have : ((n * te.bytes : Nat) : Int) ≤ 1000000000000 := by omega
      simp only [Int.natCast_mul] at this
      omega
    have key : (Builtin.append_ #[t, u] ty #[.slice (some a) sLen sCap, .int k n]).run P w = ((do
        let new ← (if n * te.size = 0 then pure #[] else do pure (Builtin.zeroCells (← zeroValue e).cells n) : Sem (Array Value))
        storeCells (a.add (sLen * te.size)) new.toList
        pure (.slice (some a) (sLen + n) sCap) : Sem Value)).run P w := by
      simp only [Builtin.append_, List.getElem?_toArray, List.getElem?_cons_zero, List.getElem?_cons_succ, Sem.run_bind, run_underlying ht, run_underlying hund, Result.andThen_ok, hsz, Sem.run_pure, asInt, asIntOf, if_true, hw0, Sem.run_ite, if_neg hneg, hbi, if_neg hbig, Int.toNat_natCast, if_pos hfit, Bool.not_true, Bool.false_eq_true, if_false]
    rw [key]
    by_cases h0 : n * te.size = 0
    · have : vs = [] := List.length_eq_zero_iff.1 (by rw [hS.len, h0])
      subst this
      have hw : w' = w := by
        simp only [storeCells] at hst
        injection hst with _ h; exact h.symm
      subst hw
      simp only [if_pos h0, Sem.run_bind, Sem.run_pure, Result.andThen_ok]
      rfl
    · simp only [if_neg h0, Sem.run_bind]
      have := h3 w
      simp only [Sem.run_bind] at this
      rw [this]
      simp only [Result.andThen_ok, hst, Sem.run_pure]
  | false =>
    obtain ⟨h1, h2⟩ := hS.nz rfl
    have hund := hS.und
    have key : (Builtin.append_ #[t, u] ty #[.slice (some a) sLen sCap, Y]).run P w = ((do
        let n ← Builtin.lenOf Y
        if sLen + n ≤ sCap then do
          let new ← Builtin.firstCells te.size n Y
          storeCells (a.add (sLen * te.size)) new.toList
          pure (.slice (some a) (sLen + n) sCap)
        else unsupported (.resourceLimit "") : Sem Value)).run P w := by
      have hk := hS.zk
      cases hdd : tu.desc <;> rw [hdd] at hund hk <;> first | (cases hk; done) | skip
      all_goals
        simp only [Builtin.append_, List.getElem?_toArray, List.getElem?_cons_zero, List.getElem?_cons_succ, Sem.run_bind, run_underlying ht, run_underlying hund, Result.andThen_ok, hsz, Sem.run_pure, Bool.false_eq_true, if_false, h1, Sem.run_ite, if_pos hfit, Bool.not_false, if_true]
    rw [key]
    simp only [Sem.run_bind, h1, Result.andThen_ok, Sem.run_ite, if_pos hfit, h2, hst, Sem.run_pure]

theorem append_grow (hG : GOk P g V.σ) {t e u : TypeId} {te tu : TI} {zeros : Bool} {n sLen sCap : Nat} {Y : Value} {vs old : List Value} {base : Option Addr} {ty : TypeId} (ht : P.underlying t = some (.slice e)) (hte : g.ty.get e = some te)
    (hS : ∀ d, Src P e te u tu zeros n Y vs { w with drawn := d }) (hfit : sCap < sLen + n) (hb : 0 < te.bytes) (hmax : 2 * (sLen + n) * te.bytes ≤ 281474976710656)
    (hold : ∀ d, (Builtin.firstCells te.size sLen (.slice base sLen sCap)).run P { w with drawn := d } = .ok old.toArray { w with drawn := d }) (hol : old.length = sLen * te.size) (hzero : ∃ z, (zeroValue e).run P { w with drawn := w.drawn + 1 } = .ok z { w with drawn := w.drawn + 1 } ∧ z.cells.size = te.size) :
    ∃ cap rest, sLen + n ≤ cap ∧ (vs.length + old.length) + rest.length = cap * te.size ∧
      (Builtin.append_ #[t, u] ty #[.slice base sLen sCap, Y]).run P w = .ok (.slice (some ⟨w.heap.size, 0, none⟩) (sLen + n) cap) (({ w with drawn := w.drawn + 1 } : World).alloc (.cells ((old ++ vs) ++ rest).toArray e)) := by
  obtain ⟨z, hz, hzs⟩ := hzero
  obtain ⟨W1, hW1⟩ : ∃ W1 : World, W1 = { w with drawn := w.drawn + 1 } := ⟨_, rfl⟩
  have hWh : W1.heap = w.heap := by rw [hW1]
  rw [← hW1] at hz ⊢
  have hold1 : (Builtin.firstCells te.size sLen (.slice base sLen sCap)).run P W1 = .ok old.toArray W1 := by rw [hW1]; exact hold _
  have hS1 : Src P e te u tu zeros n Y vs W1 := by rw [hW1]; exact hS _
  have hsz : ∀ w', (sizeOf e).run P w' = .ok te.size w' := fun w' => run_sizeOf' (hG.ty _ _ hte)
  obtain ⟨bi, hbi, hbs⟩ : ∃ i, (∀ w', (typeInfo e).run P w' = .ok i w') ∧ i.bytes = te.bytes := by
    obtain ⟨i, h1, _, h3, _⟩ := (hG.ty _ _ hte).info
    exact ⟨i, fun w' => by simp [typeInfo, h1], h3⟩
  obtain ⟨cap, hcap⟩ : ∃ cap, (Question.appendCap (sLen + n) sCap e).cut (w.tape w.drawn (Question.appendCap (sLen + n) sCap e)) = cap := ⟨_, rfl⟩
  have hle : sLen + n ≤ cap := by rw [← hcap]; simp [Question.cut]
  have hch : (choose (Question.appendCap (sLen + n) sCap e)).run P w = .ok cap W1 := by
    rw [run_choose, hW1]
    have : (Question.appendCap (sLen + n) sCap e).forced = false := rfl
    rw [this, hcap]; rfl
  have hmx : ¬ (((sLen + n : Nat) : Int) > IntKind.i64.max ∧ (zeros = true ∨ bi.bytes = 0)) := by
    rw [IntKind.max_i64]
    intro hh
    have : (sLen + n) * 1 ≤ (sLen + n) * te.bytes := Nat.mul_le_mul_left _ hb
    have h3 : 2 * (sLen + n) * te.bytes = 2 * ((sLen + n) * te.bytes) := by rw [Nat.mul_assoc]
    omega
  have hnc : ¬ (Builtin.nextslicecap (sLen + n) sCap * bi.bytes > 2 ^ 48) := by
    rw [hbs]
    have h1 := nextcap_le (sLen + n) sCap hfit
    have h2 := Nat.mul_le_mul_right te.bytes h1
    have e48 : (2 : Nat) ^ 48 = 281474976710656 := by decide
    rw [e48]; omega
  obtain ⟨rest, hrest⟩ : ∃ rest, (repl (cap - (sLen + n)) z.cells.toList) = rest := ⟨_, rfl⟩
  have hrl : rest.length = (cap - (sLen + n)) * te.size := by rw [← hrest, repl_length]; simp [hzs]
  have hvl : vs.length = n * te.size := (hS w.drawn).len
  have hnf : ¬ (sLen + n ≤ sCap) := by omega
  refine ⟨cap, rest, hle, ?_, ?_⟩
  · rw [hvl, hol, hrl, ← Nat.add_mul, ← Nat.add_mul]; congr 1; omega
  cases zeros with
  | true =>
    obtain ⟨⟨k, rfl⟩, h1, h2, h3⟩ := (hS w.drawn).z rfl
    have hd : ∃ k, tu.desc = .int k := by
      have := (hS w.drawn).zk
      cases hdd : tu.desc <;> rw [hdd] at this <;> first | exact ⟨_, rfl⟩ | cases this
    obtain ⟨kd, hkd⟩ := hd
    have hund := (hS w.drawn).und; rw [hkd] at hund
    have hw0 : IntKind.i64.wrap (n : Int) = n := wrap_nat (by omega)
    have hneg : ¬ ((n : Int) < 0) := by omega
    have hbig : ¬ ((n : Int) * (bi.bytes : Int) > 2 ^ 48) := by
      rw [hbs]
      have : n * te.bytes ≤ 1000000 * 1000000 := Nat.mul_le_mul h1 h2
      have e48 : (2 : Int) ^ 48 = 281474976710656 := by decide
      rw [e48]
      have : ((n * te.bytes : Nat) : Int) ≤ 1000000000000 := by omega
      simp only [Int.natCast_mul] at this
      omega
    have hmx' : ¬ (((sLen + n : Nat) : Int) > IntKind.i64.max ∧ (True ∨ bi.bytes = 0)) := by simpa using hmx
    have key : (Builtin.append_ #[t, u] ty #[.slice base sLen sCap, .int k n]).run P w = ((do
        let old ← Builtin.firstCells te.size sLen (.slice base sLen sCap)
        let new ← (if n * te.size = 0 then pure #[] else do pure (Builtin.zeroCells (← zeroValue e).cells n) : Sem (Array Value))
        let rest := Builtin.zeroCells (← zeroValue e).cells (cap - (sLen + n))
        pure (.slice (some (← newRow e (old ++ new ++ rest))) (sLen + n) cap) : Sem Value)).run P W1 := by
      simp only [Builtin.append_, List.getElem?_toArray, List.getElem?_cons_zero, List.getElem?_cons_succ, Sem.run_bind, run_underlying ht, run_underlying hund, Result.andThen_ok, hsz, Sem.run_pure, asInt, asIntOf, if_true, hw0, Sem.run_ite, if_neg hneg, hbi, if_neg hbig, Int.toNat_natCast, if_neg hnf, Bool.not_true, Bool.false_eq_true, if_false, if_neg hmx', if_neg hnc, hch, run_askRoom]
    rw [key]
    have hnew : ((if n * te.size = 0 then pure #[] else do pure (Builtin.zeroCells (← zeroValue e).cells n) : Sem (Array Value))).run P W1 = .ok vs.toArray W1 := by
      by_cases h0 : n * te.size = 0
      · have : vs = [] := List.length_eq_zero_iff.1 (by rw [hvl, h0])
        subst this
        simp only [if_pos h0, Sem.run_pure]
      · simp only [if_neg h0]; exact h3 _
    rw [Sem.run_bind, hold1, Result.andThen_ok, Sem.run_bind, hnew, Result.andThen_ok]
    simp only [Sem.run_bind, Result.andThen_ok, hz, run_newRow, Sem.run_pure, zeroCells_eq, hrest]
    rw [hWh]
    simp only [List.append_toArray]
  | false =>
    obtain ⟨h1, _⟩ := (hS w.drawn).nz rfl
    obtain ⟨_, h2⟩ := hS1.nz rfl
    have hund := (hS w.drawn).und
    have hmx' : ¬ (((sLen + n : Nat) : Int) > IntKind.i64.max ∧ (False ∨ bi.bytes = 0)) := by simpa using hmx
    have key : (Builtin.append_ #[t, u] ty #[.slice base sLen sCap, Y]).run P w = ((do
        let old ← Builtin.firstCells te.size sLen (.slice base sLen sCap)
        let new ← Builtin.firstCells te.size n Y
        let rest := Builtin.zeroCells (← zeroValue e).cells (cap - (sLen + n))
        pure (.slice (some (← newRow e (old ++ new ++ rest))) (sLen + n) cap) : Sem Value)).run P W1 := by
      have hk := (hS w.drawn).zk
      cases hdd : tu.desc <;> rw [hdd] at hund hk <;> first | (cases hk; done) | skip
      all_goals
        simp only [Builtin.append_, List.getElem?_toArray, List.getElem?_cons_zero, List.getElem?_cons_succ, Sem.run_bind, run_underlying ht, run_underlying hund, Result.andThen_ok, hsz, Sem.run_pure, Bool.false_eq_true, if_false, h1, Sem.run_ite, if_neg hnf, hbi, if_neg hmx', if_neg hnc, hch, run_askRoom, Bool.not_false, if_true]
    rw [key]
    simp only [Sem.run_bind, hold1, Result.andThen_ok, h2, hz, run_newRow, Sem.run_pure, zeroCells_eq, hrest]
    rw [hWh]
    simp only [List.append_toArray]
end
end Go.Proofs.YtfpfagmmdiohbaaGreatDoor.Ev
