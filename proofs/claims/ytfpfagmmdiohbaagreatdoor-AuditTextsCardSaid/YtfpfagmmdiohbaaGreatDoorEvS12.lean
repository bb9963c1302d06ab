/-
  The engine is sound, 12: all operations, joined.
-/
import Derived.Test.YtfpfagmmdiohbaaGreatDoorEvS11
import Derived.Laws.BytesString
set_option linter.unusedVariables false
set_option linter.unusedSimpArgs false
namespace Go.Proofs.YtfpfagmmdiohbaaGreatDoor.Ev
open Go.RowKit

section
variable {P : Program} {g : G} {V : Env} {s : S} {B w : World} {a : A} {A : Act}

theorem fold_push (ns : List Int) : ∀ (acc : ByteArray), ns.foldl (fun r n => r.push (UInt8.ofNat n.toNat)) acc = ⟨acc.data ++ (ns.map fun n => UInt8.ofNat n.toNat).toArray⟩ := by
  induction ns with
  | nil => intro acc; simp
  | cons n ns ih =>
    intro acc
    rw [List.foldl_cons, ih]
    apply ByteArray.ext
    apply Array.ext'
    simp [ByteArray.push]

theorem OpOk.err {o : Oper} (n : Nat) : OpOk P g B V A o w (.err n) := trivial
theorem OpOk.val {o : Oper} {v : AV} {s' : S} (h : OpGoes P B V A o v s' w) : OpOk P g B V A o w (.val v s') := h

theorem sliceH_ok (hG : GOk P g V.σ) (hR : Rel P V s B w) (hA : ARel V a A) {t : TypeId} {x v : AV} {X : Value} {lo hi mx : Option Operand} (h : sliceH g a s t x lo hi mx = some v) (hX : x.conc V = some X) :
    ∃ R, v.conc V = some R ∧ (Instr.sliceAt t X (lo.map A.eval) (hi.map A.eval) (mx.map A.eval)).run P w = .ok R w := by
  unfold sliceH at h
  cases mx with
  | some m => cases h
  | none =>
    simp only at h
    split at h
    · cases h
    · rename_i ti hti
      have hu := (hG.ty _ _ hti).desc
      split at h
      · rename_i e id off len skip hd
        rw [hd] at hu
        obtain ⟨p, hp, rfl⟩ := conc_slice hX
        split at h
        · rename_i i j te l e' h1 h2 hte hb
          cases c : (Nat.beq e e' && Nat.ble i j && Nat.ble (Nat.mul (Nat.add skip j) te.size) (llen l) && !Nat.beq te.size 0 && (Nat.beq i 0 || Nat.blt (Nat.mul (Nat.add skip i) te.size) (llen l))) with
          | false => rw [c] at h; cases h
          | true =>
            rw [c] at h; simp only [cond_true] at h; cases h
            rw [llen_eq] at c
            simp only [nbeq, nble, nblt, Bool.and_eq_true, Bool.or_eq_true, decide_eq_true_eq, Bool.not_eq_true', decide_eq_false_iff_not] at c
            obtain ⟨⟨⟨⟨ce, c1⟩, c2⟩, c3⟩, c4⟩ := c
            have c2' : (skip + j) * te.size ≤ l.length := c2
            subst ce
            obtain ⟨q, hq, hB, _⟩ := hR.blk id _ hb
            rw [hp] at hq; cases hq
            obtain ⟨cur, rest, fz, k1, k2, k3, k4⟩ := hB
            have hl := concL_len k1
            obtain ⟨ie, hie, his, _⟩ := (hG.ty _ _ hte).info
            have hcap := k4 ie hie
            rw [his] at hcap
            have hsz : 0 < te.size := Nat.pos_of_ne_zero c3
            have hj : skip + j ≤ p.2 := by
              refine Nat.le_of_mul_le_mul_right (c := te.size) ?_ hsz
              rw [← hcap]; omega
            have hjc : j ≤ p.2 - skip := by omega
            refine ⟨.slice (some (if i = 0 then ⟨p.1, off, none⟩ else (⟨p.1, off, none⟩ : Addr).add (i * te.size))) (j - i) (p.2 - skip - i), ?_, ?_⟩
            · simp only [AV.conc, hp, capOf, nbeq]
              have e1 : p.2 - Nat.add skip i = p.2 - skip - i := by show p.2 - (skip + i) = _; omega
              rw [e1]
              by_cases hi0 : i = 0
              · subst hi0; simp
              · simp only [hi0, decide_false, cond_false, if_false]
                rw [add_at]
                rfl
            · simp only [Instr.sliceAt, Sem.run_bind, run_underlying hu, Result.andThen_ok, Instr.slice, Option.map_none, capOf]
              rw [run_sliceBounds hA hR.globOk true h1 h2 c1 hjc w]
              simp only [Result.andThen_ok, run_sizeOf' (hG.ty _ _ hte), Sem.run_pure, Option.map_some]
              by_cases hi0 : i = 0
              · subst hi0
                have e2 : (⟨p.1, off, none⟩ : Addr).add (0 * te.size) = ⟨p.1, off, none⟩ := by rw [add_at]; simp
                rw [e2]
                by_cases h0 : p.2 - skip = 0 <;> simp [h0]
              · have hlt : skip + i < p.2 := by
                  rcases c4 with c4 | c4
                  · exact absurd c4 hi0
                  · have c4' : (skip + i) * te.size < l.length := c4
                    refine Nat.lt_of_mul_lt_mul_right (a := te.size) ?_
                    rw [← hcap]; omega
                have hne : ¬ (p.2 - skip = i) := by omega
                simp [hi0, hne]
        · cases h
      · cases h

theorem freeze_new (W : World) (c : Array Value) (e : TypeId) (n : Nat) : (W.alloc (.cells c e)).freeze ⟨W.heap.size, n, none⟩ 1 = W.alloc (.cells c e (n, n + 1)) := by
  have hpm : ∀ (h : Array Obj) (x : Obj) (f : Obj → Obj), (h.push x).modify h.size f = h.push (f x) := by
    intro h x f
    apply Array.ext_getElem?
    intro j
    rw [Array.getElem?_modify, Array.getElem?_push, Array.getElem?_push]
    by_cases hj : j = h.size
    · subst hj; simp
    · simp [hj]; intro e; exact absurd e.symm hj
  have h1 : (W.alloc (.cells c e)).freeze ⟨W.heap.size, n, none⟩ 1 = { W with heap := (W.heap.push (.cells c e)).modify W.heap.size fun
      | .cells c elem (lo, hi) => .cells c elem (if lo == hi then (n, n + 1) else (min lo n, max hi (n + 1)))
      | o => o } := rfl
  rw [h1, hpm]
  rfl

theorem mapUpd_ok (hG : GOk P g V.σ) (hR : Rel P V s B w) (hA : ARel V a A) {t : TypeId} {m k x : Operand} (o : Oper) (he : execOp A.eval o = (do Instr.mapUpdate t (A.eval m) (A.eval k) (A.eval x); pure Next.skip : Sem Next)) :
    OpOk P g B V A o w (mapUpdA g a s t m k x) := by
  have hg := hR.globOk
  unfold mapUpdA
  split
  · rename_i id K v ti hm hk hx hti
    have hu := (hG.ty _ _ hti).desc
    obtain ⟨p, hp, eM⟩ := conc_map (evO_ok hA hg hm)
    have hK := evO_ok hA hg hk
    have hX := evO_ok hA hg hx
    split
    · rename_i kt et es clock hd hb
      rw [hd] at hu
      cases c : (keyPlain g 100 kt K && Nat.blt id big) with
      | false => exact OpOk.err _
      | true =>
        simp only [cond_true]
        simp only [Bool.and_eq_true, nblt, decide_eq_true_eq] at c
        obtain ⟨q, hq, hB, _⟩ := hR.blk id _ hb
        rw [hp] at hq; cases hq
        obtain ⟨ms, k1, k2⟩ := hB
        obtain ⟨hck, hsb⟩ := keyPlain_ok hG false 100 kt K _ c.1 hK 10000 (by omega)
        obtain ⟨tk, htk⟩ : ∃ d, P.underlying kt = some d := by
          have := c.1
          unfold keyPlain at this
          split at this
          · cases this
          · rename_i tk htk; exact ⟨_, (hG.ty _ _ htk).desc⟩
        split
        · rename_i i v0 hf
          obtain ⟨r', f1, f2⟩ := run_findKey hG hK htk k1 hf
          cases r' with
          | none => exact f1.elim
          | some r' =>
            obtain ⟨j, X0⟩ := r'
            obtain ⟨rfl, hv0⟩ := f1
            split
            · rename_i k' v1 b1 hget
              rw [lget_eq] at hget
              cases ck : AV.eqb k' K with
              | false => exact OpOk.err _
              | true =>
                simp only [cond_true]
                have hkk := eqb_eq _ _ ck
                subst hkk
                obtain ⟨me, g1, g2, g3, g4⟩ := k1.get hget
                simp only at g2
                have hkey : me.key = A.eval k := by rw [hK] at g2; exact (Option.some.inj g2).symm
                have hkt : (Instr.keyThatStays (((ms.toArray[i]?).map (·.key)).getD (A.eval k)) (A.eval k)).run P w = .ok (A.eval k) w := by
                  have : ((ms.toArray[i]?).map (·.key)).getD (A.eval k) = A.eval k := by
                    simp [g1, hkey]
                  rw [this]
                  simp only [Instr.keyThatStays, hsb, if_true, Sem.run_pure]
                refine OpOk.val (skip_of (m := Instr.mapUpdate t (A.eval m) (A.eval k) (A.eval x)) (turn_map (c' := clock) hR c.2 hb hp (k1.upd (i := i) hK hX)) ?_ he)
                simp only [Instr.mapUpdate, Sem.run_bind, run_underlying hu, Result.andThen_ok, eM, run_getObj_m k2, hck, f2, hkt, run_setObj_m _ k2]
                congr 4
                simp
            · exact OpOk.err _
        · rename_i hf
          obtain ⟨r', f1, f2⟩ := run_findKey hG hK htk k1 hf
          cases r' with
          | some r' => exact f1.elim
          | none =>
            refine OpOk.val (skip_of (m := Instr.mapUpdate t (A.eval m) (A.eval k) (A.eval x)) (turn_map (c' := clock + 1) hR c.2 hb hp (k1.push (k := K) (v := v) (b := clock) (m := ⟨A.eval k, A.eval x, clock⟩) hK hX rfl)) ?_ he)
            simp only [Instr.mapUpdate, Sem.run_bind, run_underlying hu, Result.andThen_ok, eM, run_getObj_m k2, hck, f2, run_setObj_m _ k2]
            congr 4
            simp
        · exact OpOk.err _
    · exact OpOk.err _
  · exact OpOk.err _

set_option maxHeartbeats 4000000 in
theorem opA_ok (hG : GOk P g V.σ) (hR : Rel P V s B w) (hA : ARel V a A) (o : Oper) : OpOk P g B V A o w (opA g a s o) := by
  have hg := hR.globOk
  unfold opA
  split
  · rename_i v hv
    obtain ⟨x, h1, h2⟩ := pureA_ok hG hR.τ hA hg hv
    exact OpOk.val ⟨V, x, w, Ext.refl V, hR, h1, .inl (h2 w)⟩
  · rename_i hnone; clear hnone
    obtain ⟨dst, op, type, pos, after, guard⟩ := o
    simp only
    split
    · -- alloc
      rename_i t
      split
      · rename_i ti hti
        split
        · rename_i z hz
          refine opB_ok (fun id s' hn => ?_)
          obtain ⟨i, zv, hi, hiz, his, hzc, hzl⟩ := zero_conc hG hti hz hR.τ
          obtain ⟨V', k1, k2, k3⟩ := new_cells hR hn hzl
          refine goes_of (m := Instr.alloc t true (.tuple #[])) ⟨V', .pointer (some ⟨w.heap.size, 0, none⟩), _, k1, k2, by simp only [AV.conc, k3], ?_⟩ rfl
          simp only [Instr.alloc, Sem.run_bind, zeroValue, typeInfo, run_program, hi, Result.andThen_ok, Sem.run_pure, hiz, newVar, run_newRow]
        · exact OpOk.err _
      · exact OpOk.err _
    · -- box
      rename_i t x
      split
      · rename_i v hv
        cases c : allOne v.cells with
        | false => exact OpOk.err _
        | true =>
          refine opB_ok (fun id s' hn => ?_)
          have hvc := conc_cells hR.τ (evO_ok hA hg hv)
          obtain ⟨V', k1, k2, k3⟩ := new_cells hR hn hvc
          refine goes_of (m := Instr.box t (A.eval x)) ⟨V', .pointer (some ⟨w.heap.size, 0, none⟩), _, k1, k2, by simp only [AV.conc, k3], ?_⟩ rfl
          simp only [Instr.box, Sem.run_bind, newVar, run_newRow, Result.andThen_ok, Sem.run_pure]
      · exact OpOk.err _
    · -- buildSlice
      rename_i t len parts
      split
      · rename_i ti ps hti hps
        have hu := (hG.ty _ _ hti).desc
        split
        · rename_i e hd
          rw [hd] at hu
          split
          · rename_i te hte
            split
            · rename_i z hz
              cases c : (Nat.beq (llen z.cells) te.size && Nat.ble (Nat.mul len te.size) 16777216 && !Nat.beq te.size 0) with
              | false => exact OpOk.err _
              | true =>
                simp only [cond_true]
                rw [llen_eq] at c
                simp only [nbeq, nble, Bool.and_eq_true, decide_eq_true_eq, Bool.not_eq_true', decide_eq_false_iff_not] at c
                obtain ⟨⟨c1, c2⟩, c3⟩ := c
                have c2' : len * te.size ≤ 16777216 := c2
                split
                · rename_i cs hf
                  refine opB_ok (fun id s' hn => ?_)
                  obtain ⟨i, zv, hi, hiz, his, hzc, hzl⟩ := zero_conc hG hte hz hR.τ
                  have hzs : zv.cells.size = te.size := by rw [← Array.length_toList, concL_len hzl, c1]
                  obtain ⟨us, f1, f2⟩ := fill_ok hR.τ hf (repl_conc hzl len) (evParts_ok hA hg hps)
                  obtain ⟨V', k1, k2, k3⟩ := new_cells hR hn f2
                  refine goes_of (m := Instr.buildSlice t len (parts.map fun (i, x) => (i, A.eval x))) ⟨V', .slice (some ⟨w.heap.size, 0, none⟩) len len, _, k1, k2, by simp only [AV.conc, k3, capOf], ?_⟩ rfl
                  have hbig : ¬ (len * te.size > 2 ^ 24) := by
                    have e24 : (2 : Nat) ^ 24 = 16777216 := by decide
                    rw [e24]; omega
                  have hfill : Instr.fill (fun i => some (i * te.size, te.size)) ((Array.range (len * te.size)).map (fun i => zv.cells[i % zv.cells.size]!)) (parts.map fun (i, x) => (i, A.eval x)).toList = some us.toArray := by
                    have := zeros_eq zv.cells len
                    rw [hzs] at this ⊢
                    rw [this, Array.toList_map]
                    exact f1
                  by_cases h0 : len * te.size = 0
                  · have hfill' : Instr.fill (fun i => some (i * te.size, te.size)) ((Array.range (len * te.size)).map (fun i => (#[] : Array Value)[i % (#[] : Array Value).size]!)) (parts.map fun (i, x) => (i, A.eval x)).toList = some us.toArray := by
                      rw [← hfill]; congr 1; rw [h0]; simp
                    simp only [Instr.buildSlice, Sem.run_bind, run_underlying hu, Result.andThen_ok, run_sizeOf' (hG.ty _ _ hte), Sem.run_ite, if_neg hbig, if_pos h0, Sem.run_pure, hfill', run_newRow]
                  · simp only [Instr.buildSlice, Sem.run_bind, run_underlying hu, Result.andThen_ok, run_sizeOf' (hG.ty _ _ hte), Sem.run_ite, if_neg hbig, if_neg h0, Sem.run_pure, zeroValue, typeInfo, run_program, hi, hiz, hfill, run_newRow]
                · exact OpOk.err _
            · exact OpOk.err _
          · exact OpOk.err _
        · exact OpOk.err _
      · exact OpOk.err _
    · -- load
      rename_i t x
      split
      · rename_i id off hx
        refine opV_ok (fun v hv => ?_)
        obtain ⟨p, hp, e⟩ := conc_ptr (evO_ok hA hg hx)
        obtain ⟨X, h1, h2⟩ := run_loadT hG hR hv hp
        refine goes_of (m := Instr.loadAt t (A.eval x)) ⟨V, X, w, Ext.refl V, hR, h1, ?_⟩ rfl
        simp only [Instr.loadAt, Sem.run_bind, e, Instr.sureAddr, Sem.run_pure, Result.andThen_ok, h2]
      · exact OpOk.err _
    · -- store
      rename_i t x y
      split
      · rename_i id off v ti hx hy hti
        cases c : Nat.beq (llen v.cells) ti.size with
        | false => exact OpOk.err _
        | true =>
          simp only [cond_true]
          rw [llen_eq] at c
          have c' : v.cells.length = ti.size := by simpa using c
          split
          · rename_i s' hst
            obtain ⟨p, hp, e⟩ := conc_ptr (evO_ok hA hg hx)
            have hvc := conc_cells hR.τ (evO_ok hA hg hy)
            obtain ⟨w', r1, r2, _⟩ := storeC_ok hR hst hp hvc
            refine OpOk.val (skip_of (m := Instr.storeAt t (A.eval x) (A.eval y)) r1 ?_ rfl)
            have hsz : ¬ ((A.eval y).cells.size ≠ ti.size) := by
              have := concL_len hvc
              rw [Array.length_toList] at this
              rw [this, c']; simp
            simp only [Instr.storeAt, Sem.run_bind, e, Instr.sureAddr, Sem.run_pure, Result.andThen_ok, storeVar, run_sizeOf' (hG.ty _ _ hti), if_neg hsz, r2]
          · exact OpOk.err _
      · exact OpOk.err _
    · -- makeMap
      rename_i t
      refine opB_ok (fun id s' hn => ?_)
      obtain ⟨h1, h2, h3⟩ := hR.new (cap := 0) (lc := none) (o := .map #[] 0) hn rfl (.inl rfl) ⟨[], trivial, rfl⟩
      refine goes_of (m := Instr.makeMap t none) ⟨_, .map (some w.heap.size), _, h2, h1, by simp only [AV.conc, h3], ?_⟩ rfl
      simp only [Instr.makeMap, Sem.run_bind, Sem.run_pure, Result.andThen_ok]
      rfl
    · -- makeSlice
      rename_i t l c
      split
      · rename_i L C ti hl hc hti
        have hu := (hG.ty _ _ hti).desc
        split
        · rename_i l' c' e hl' hc' hd
          rw [hd] at hu
          obtain ⟨k1, e1⟩ := natOf_ok hl' (evO_ok hA hg hl)
          obtain ⟨k2, e2⟩ := natOf_ok hc' (evO_ok hA hg hc)
          split
          · rename_i te hte
            split
            · rename_i z hz
              cases cc : (Nat.beq (llen z.cells) te.size && !Nat.beq te.size 0 && Nat.ble l' c' && Nat.ble c' 1000000 && Nat.ble te.bytes 1000000) with
              | false => exact OpOk.err _
              | true =>
                simp only [cond_true]
                rw [llen_eq] at cc
                simp only [nbeq, nble, Bool.and_eq_true, decide_eq_true_eq, Bool.not_eq_true', decide_eq_false_iff_not] at cc
                obtain ⟨⟨⟨⟨d1, d2⟩, d3⟩, d4⟩, d5⟩ := cc
                refine opB_ok (fun id s' hn => ?_)
                obtain ⟨i, zv, hi, hiz, his, hzc, hzl⟩ := zero_conc hG hte hz hR.τ
                have hzs : zv.cells.size = te.size := by rw [← Array.length_toList, concL_len hzl, d1]
                obtain ⟨V', m1, m2, m3⟩ := new_cells hR hn (repl_conc hzl c')
                refine goes_of (m := Instr.makeSlice t (A.eval l) (A.eval c)) ⟨V', .slice (some ⟨w.heap.size, 0, none⟩) l' c', _, m1, m2, by simp only [AV.conc, m3, capOf], ?_⟩ rfl
                have w1 : IntKind.i64.wrap (l' : Int) = l' := wrap_nat (by omega)
                have w2 : IntKind.i64.wrap (c' : Int) = c' := wrap_nat (by omega)
                obtain ⟨ie, hie, _, hib, _⟩ := (hG.ty _ _ hte).info
                have hie' : i = ie := by rw [hi] at hie; cases hie; rfl
                subst hie'
                have hcond : ¬ (((decide ((c' : Int) < 0) || decide ((i.bytes : Int) * (c' : Int) > 2 ^ 48)) || decide ((l' : Int) < 0) || decide ((l' : Int) > (c' : Int))) = true) := by
                  have hb : i.bytes * c' ≤ 1000000 * 1000000 := Nat.mul_le_mul (by rw [hib]; exact d5) d4
                  have e48 : (2 : Int) ^ 48 = 281474976710656 := by decide
                  rw [e48]
                  have : ((i.bytes * c' : Nat) : Int) ≤ 1000000000000 := by omega
                  simp only [Int.natCast_mul] at this
                  simp only [Bool.or_eq_true, decide_eq_true_eq]
                  omega
                have hz2 := zeros_eq zv.cells c'
                rw [hzs] at hz2
                by_cases h0 : c' * te.size = 0
                · have hz3 : ((Array.range (c' * te.size)).map (fun i => (#[] : Array Value)[i % (#[] : Array Value).size]!)) = (repl c' zv.cells.toList).toArray := by
                    rw [← hz2, h0]; simp
                  simp only [Instr.makeSlice, Sem.run_bind, run_underlying hu, Result.andThen_ok, e1, e2, asInt, asIntOf, Sem.run_pure, typeInfo, run_program, hi, w1, w2, Sem.run_ite, if_neg hcond, run_askRoom, Int.toNat_natCast, run_sizeOf' (hG.ty _ _ hte), if_pos h0, hz3, run_newRow]
                · simp only [Instr.makeSlice, Sem.run_bind, run_underlying hu, Result.andThen_ok, e1, e2, asInt, asIntOf, Sem.run_pure, typeInfo, run_program, hi, w1, w2, Sem.run_ite, if_neg hcond, run_askRoom, Int.toNat_natCast, run_sizeOf' (hG.ty _ _ hte), if_neg h0, zeroValue, hiz, hzs, hz2, run_newRow]
            · exact OpOk.err _
          · exact OpOk.err _
        · exact OpOk.err _
      · exact OpOk.err _
    · -- lookup
      rename_i t x k ok
      split
      · rename_i m k' ti hx hk hti
        have hu := (hG.ty _ _ hti).desc
        have hX := evO_ok hA hg hx
        have hK := evO_ok hA hg hk
        split
        · rename_i kt et es hd hm
          rw [hd] at hu
          cases c : keyPlain g 100 kt k' with
          | false => exact OpOk.err _
          | true =>
            simp only [cond_true]
            obtain ⟨dk, hdk⟩ : ∃ d, P.underlying kt = some d := by
              have := c
              unfold keyPlain at this
              split at this
              · cases this
              · rename_i tk htk; exact ⟨_, (hG.ty _ _ htk).desc⟩
            have hmap : ∃ ms, EntOk V es ms ∧ ∀ (m2 : Array MapEntry → Sem Value), (do
                let es ← match A.eval x with
                  | .map none => pure #[]
                  | .map (some r) => do
                    let .map es _ ← getObj r | stuck "Lookup: map expected"
                    pure es
                  | _ => stuck "Lookup: map expected"
                m2 es : Sem Value).run P w = (m2 ms.toArray).run P w := by
              rcases mapOf_ok hR hm hX with ⟨e1, rfl⟩ | ⟨r0, ms, c0, e1, k1, k2⟩
              · refine ⟨[], trivial, fun m2 => ?_⟩
                rw [e1]; rfl
              · refine ⟨ms, k1, fun m2 => ?_⟩
                rw [e1]
                simp only [Sem.run_bind, run_getObj_m k2, Result.andThen_ok, Sem.run_pure]
            obtain ⟨ms, k1, k2⟩ := hmap
            have hck := (keyPlain_ok hG ms.toArray.isEmpty 100 kt k' _ c hK 10000 (by omega)).1
            have hlk : (Instr.lookup t (A.eval x) (A.eval k) ok).run P w = ((do
                Instr.checkKey ms.toArray.isEmpty 10000 kt (A.eval k)
                let (v, b) ← match ← Instr.findKey kt (A.eval k) ms with
                  | some (_, v) => pure (v, true)
                  | none => pure (← zeroValue et, false)
                pure (if ok then .tuple #[v, .bool b] else v) : Sem Value)).run P w := by
              simp only [Instr.lookup, Sem.run_bind, run_underlying hu, Result.andThen_ok]
              have := k2 (fun es => do
                Instr.checkKey es.isEmpty 10000 kt (A.eval k)
                let (v, b) ← match ← Instr.findKey kt (A.eval k) es.toList with
                  | some (_, v) => pure (v, true)
                  | none => pure (← zeroValue et, false)
                pure (if ok then .tuple #[v, .bool b] else v))
              simp only [Sem.run_bind] at this
              exact this
            split
            · rename_i i v hf
              obtain ⟨r', f1, f2⟩ := run_findKey hG hK hdk k1 hf
              cases r' with
              | none => exact f1.elim
              | some r' =>
                obtain ⟨j, X⟩ := r'
                obtain ⟨rfl, hv⟩ := f1
                refine OpOk.val (goes_of (m := Instr.lookup t (A.eval x) (A.eval k) ok) ⟨V, if ok then .tuple #[X, .bool true] else X, w, Ext.refl V, hR, ?_, ?_⟩ rfl)
                · cases ok
                  · exact hv
                  · exact tup_mk (concL_mk hv (concL_mk rfl (concL_nil V)))
                · show (Instr.lookup t (A.eval x) (A.eval k) ok).run P w = _
                  rw [hlk]
                  simp only [Sem.run_bind, hck, Result.andThen_ok, f2, Sem.run_pure]
            · rename_i hf
              obtain ⟨r', f1, f2⟩ := run_findKey hG hK hdk k1 hf
              cases r' with
              | some r' => exact f1.elim
              | none =>
                split
                · rename_i te hte
                  split
                  · rename_i z hz
                    obtain ⟨i, zv, hi, hiz, his, hzc, hzl⟩ := zero_conc hG hte hz hR.τ
                    refine OpOk.val (goes_of (m := Instr.lookup t (A.eval x) (A.eval k) ok) ⟨V, if ok then .tuple #[zv, .bool false] else zv, w, Ext.refl V, hR, ?_, ?_⟩ rfl)
                    · cases ok
                      · exact hzc
                      · exact tup_mk (concL_mk hzc (concL_mk rfl (concL_nil V)))
                    · show (Instr.lookup t (A.eval x) (A.eval k) ok).run P w = _
                      rw [hlk]
                      have hzr : (zeroValue et).run P w = .ok zv w := by simp [zeroValue, typeInfo, hi, hiz]
                      simp only [Sem.run_bind, hck, Result.andThen_ok, f2, Sem.run_pure, hzr]
                  · exact OpOk.err _
                · exact OpOk.err _
            · exact OpOk.err _
        · exact OpOk.err _
      · exact OpOk.err _
    · -- mapUpdate
      rename_i t m k x
      exact mapUpd_ok hG hR hA _ rfl
    · -- insert
      rename_i t m k x
      exact mapUpd_ok hG hR hA _ rfl
    · -- a call
      rename_i c
      obtain ⟨callee, args, argTypes⟩ := c
      simp only
      split
      · rename_i as has
        have hxs := evL_ok hA hg has
        have e : (args.map A.eval) = (args.toList.map A.eval).toArray := by apply Array.ext'; simp
        split
        · rename_i b
          have hb := builtinA_ok (P := P) (ats := argTypes) (b := b) hG hR type (args.map fun | .const _ => true | _ => false) hxs
          cases hr : builtinA g s b argTypes as with
          | val v s' =>
            rw [hr] at hb
            obtain ⟨V', X, w', h1, h2, h3, h4⟩ := hb
            refine OpOk.val ⟨V', X, w', h1, h2, h3, .inl ?_⟩
            simp only [execOp, resolve, Sem.run_bind, Sem.run_pure, Result.andThen_ok, invoke, e]
            exact h4
          | enter f l => rw [hr] at hb; exact hb.elim
          | yield f l => rw [hr] at hb; exact hb.elim
          | err n => exact OpOk.err _
        · rename_i f
          split
          · rename_i fv hf
            have hF := evO_ok hA hg hf
            unfold callA
            split
            · rename_i k first captured
              obtain ⟨fs, cs, h1, h2, h3⟩ := conc_func hF
              split
              · rename_i fi hfi
                refine ⟨⟨fi, hfi⟩, _, concL_app (concL_app h1 hxs) h2, ?_⟩
                simp only [execOp, resolve, Sem.run_bind, Sem.run_pure, Result.andThen_ok, invoke, e, h3, Deferred.ofValue]
                have := (hG.fn k fi hfi).call ((fs ++ args.toList.map A.eval) ++ cs).toArray w
                rw [← this]
                congr 2
                apply Array.ext'
                simp
              · exact OpOk.err _
            · rename_i l
              obtain ⟨p, hp, h3⟩ := conc_yield hF
              refine ⟨p, _, hp, hxs, ?_⟩
              simp only [execOp, resolve, Sem.run_bind, Sem.run_pure, Result.andThen_ok, invoke, e, h3, Deferred.ofValue]
              congr 2
              simp
            · exact OpOk.err _
          · exact OpOk.err _
        · exact OpOk.err _
      · exact OpOk.err _
    · -- convert
      rename_i t u x
      split
      · rename_i l tu ti hx hu' ht'
        have hX := evO_ok hA hg hx
        simp only [AV.conc, Option.some.injEq] at hX
        have hu := (hG.ty _ _ hu').desc
        have ht := (hG.ty _ _ ht').desc
        split
        · rename_i e hd
          rw [hd] at hu
          split
          · rename_i te hte
            have he := (hG.ty _ _ hte).desc
            split
            · rename_i hd2
              rw [hd2] at he
              cases c : (Nat.blt (llen l) big && Nat.beq te.size 1) with
              | false => exact OpOk.err _
              | true =>
                simp only [nblt, nbeq, Bool.and_eq_true, decide_eq_true_eq] at c
                refine opB_ok (fun id s' hn => ?_)
                obtain ⟨ie, hie, his, _⟩ := (hG.ty _ _ hte).info
                have hs : (⟨l.toArray⟩ : ByteArray).size = l.length := by simp [ByteArray.size]
                obtain ⟨cap, hcap⟩ : ∃ cap, (Question.appendCap l.length 0 e).cut (w.tape w.drawn (Question.appendCap l.length 0 e)) = cap := ⟨_, rfl⟩
                have hle : l.length ≤ cap := by rw [← hcap]; simp [Question.cut]
                obtain ⟨W1, hW1⟩ : ∃ W1 : World, W1 = { w with drawn := w.drawn + 1 } := ⟨_, rfl⟩
                have hch : (choose (Question.appendCap l.length 0 e)).run P w = .ok cap W1 := by
                  rw [run_choose]
                  have : (Question.appendCap l.length 0 e).forced = false := rfl
                  rw [this, hcap, hW1]; rfl
                have hR1 : Rel P V s B W1 := by rw [hW1]; exact hR.drew _
                have hsz : W1.heap.size = w.heap.size := by rw [hW1]
                obtain ⟨V', m1, m2, m3⟩ := new_row (cap := cap) (rest := List.replicate (cap - l.length) (.int .u8 0)) (fz := (cap, cap + 1)) hR1 hn (bytesA_conc V l)
                  (by simp; intro o ho; omega) (fun j hj => by rw [hie] at hj; cases hj; rw [his, c.2]; simp; omega)
                refine goes_of (m := convert t u (A.eval x)) ⟨V', .slice (some ⟨W1.heap.size, 0, none⟩) l.length cap, _, m1, m2, by simp only [AV.conc, m3, capOf, llen_eq, Nat.sub_zero], ?_⟩ rfl
                have hcv : (convert t u (.string ⟨l.toArray⟩)).run P w = (Conv.stringToBytes e ⟨l.toArray⟩).run P w := by
                  simp only [convert, Sem.run_bind, run_underlying ht, run_underlying hu, Result.andThen_ok]
                  cases ti.desc <;> simp only [Sem.run_bind, run_underlying he, Result.andThen_ok]
                show (convert t u (A.eval x)).run P w = _
                rw [← hX, hcv]
                have hmk : ∀ (c : Array Value) (n : Nat), c.size = n → (markStringish ⟨W1.heap.size, 0, none⟩).run P (W1.alloc (.cells c e)) = .ok () (W1.alloc (.cells c e (n, n + 1))) := by
                  intro c n hc
                  have hsh : (W1.alloc (.cells c e)).shape? W1.heap.size = some (e, n) := by
                    simp only [World.shape?, heap_alloc, if_true]; rw [hc]
                  simp only [markStringish, Sem.run_bind, run_shape, Result.andThen_ok, hsh, run_freeze]
                  congr 1
                  exact freeze_new W1 c e n
                simp only [Conv.stringToBytes, Sem.run_bind, hs, hch, Result.andThen_ok, run_newRow]
                have hca : ((l.toArray.map fun b => Value.int .u8 b.toNat) ++ Array.replicate (cap - l.length) (Value.int .u8 0)) = ((l.map fun b => Value.int .u8 b.toNat) ++ List.replicate (cap - l.length) (Value.int .u8 0)).toArray := by
                  apply Array.ext'; simp
                rw [hca, hmk _ cap (by simp; omega)]
                simp only [Result.andThen_ok, Sem.run_pure]
            · exact OpOk.err _
          · exact OpOk.err _
        · exact OpOk.err _
      · rename_i id off len cp sk tu ti hx hu' ht'
        obtain ⟨p, hp, eX⟩ := conc_slice (evO_ok hA hg hx)
        have hu := (hG.ty _ _ hu').desc
        have ht := (hG.ty _ _ ht').desc
        split
        · rename_i e hd1 hd2
          rw [hd2] at hu; rw [hd1] at ht
          split
          · rename_i te l hte hl
            have he := (hG.ty _ _ hte).desc
            split
            · rename_i bs hd3 hbs
              rw [hd3] at he
              obtain ⟨vs, h1, h2, h3⟩ := loadC_ok hR hl hp
              obtain ⟨ns, e1, e2⟩ := bytesB_ok hbs h1
              refine OpOk.val (goes_of (m := convert t u (A.eval x)) ⟨V, .string ⟨bs.toArray⟩, w, Ext.refl V, hR, rfl, ?_⟩ rfl)
              have hld : (loadCells ⟨p.1, off, none⟩ len).run P w = .ok (ns.map (Value.int .u8)).toArray w := by
                have := run_loadCells_list (P := P) w ⟨p.1, off, none⟩ vs (fun j x hx => by rw [add_at]; exact h3 j x hx)
                rw [h2, e1] at this
                exact this
              show (convert t u (A.eval x)).run P w = _
              rw [eX, run_convert_bytes_string w t u e _ _ _ ht he hu, run_bytesToString w _ _ _ ns hld, fold_push, e2]
              congr 2
              apply ByteArray.ext
              simp
            · exact OpOk.err _
          · exact OpOk.err _
        · exact OpOk.err _
      · rename_i tu ti hx hu' ht'
        have hX := evO_ok hA hg hx
        simp only [AV.conc, Option.some.injEq] at hX
        have hu := (hG.ty _ _ hu').desc
        have ht := (hG.ty _ _ ht').desc
        split
        · rename_i e hd1 hd2
          rw [hd2] at hu; rw [hd1] at ht
          split
          · rename_i te hte
            have he := (hG.ty _ _ hte).desc
            split
            · rename_i hd3
              rw [hd3] at he
              refine OpOk.val (goes_of (m := convert t u (A.eval x)) ⟨V, .string ByteArray.empty, w, Ext.refl V, hR, rfl, ?_⟩ rfl)
              show (convert t u (A.eval x)).run P w = _
              rw [← hX, run_convert_bytes_string w t u e _ _ _ ht he hu]
              rfl
            · exact OpOk.err _
          · exact OpOk.err _
        · exact OpOk.err _
      · exact OpOk.err _
    · -- a slice of a row of unknown capacity
      rename_i t x lo hi mx
      split
      · rename_i X hx
        split
        · rename_i v hv
          obtain ⟨R, h1, h2⟩ := sliceH_ok hG hR hA hv (evO_ok hA hg hx)
          exact OpOk.val (goes_of (m := Instr.sliceAt t (A.eval x) (lo.map A.eval) (hi.map A.eval) (mx.map A.eval)) ⟨V, R, w, Ext.refl V, hR, h1, h2⟩ rfl)
        · exact OpOk.err _
      · exact OpOk.err _
    · exact OpOk.err _
end
end Go.Proofs.YtfpfagmmdiohbaaGreatDoor.Ev
