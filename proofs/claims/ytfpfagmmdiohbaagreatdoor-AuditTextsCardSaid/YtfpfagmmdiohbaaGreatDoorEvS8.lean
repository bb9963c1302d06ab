/-
  The engine is sound, 8: append, copy, joined.
-/
import Derived.Test.YtfpfagmmdiohbaaGreatDoorEvS7
set_option linter.unusedVariables false
set_option linter.unusedSimpArgs false
namespace Go.Proofs.YtfpfagmmdiohbaaGreatDoor.Ev
open Go.RowKit

section
variable {P : Program} {g : G} {V : Env} {s s' : S} {B w : World}

theorem src_ok (hG : GOk P g V.σ) (hR : Rel P V s B w) {e u : TypeId} {te tu : TI} {y : AV} {Y : Value} {zeros : Bool} {n : Nat} {new : List AV} (hte : g.ty.get e = some te) (hu : P.underlying u = some tu.desc)
    (hz : zeros = (match tu.desc with | .int _ => true | _ => false)) (h : appCells s te y zeros = some (n, new)) (hY : y.conc V = some Y) :
    ∃ vs, concL V new = some vs ∧ ∀ d, Src P e te u tu zeros n Y vs { w with drawn := d } := by
  have hzk : zeros = true ↔ ∃ k, tu.desc = .int k := by
    rw [hz]; cases tu.desc <;> simp
  obtain ⟨vs, h1, h2, _⟩ := appCells_ok hG hR hte h hY hzk
  refine ⟨vs, h1, fun d => ?_⟩
  obtain ⟨vs', h1', h2', h3'⟩ := appCells_ok hG (hR.drew d) hte h hY hzk
  rw [h1] at h1'; cases h1'
  refine ⟨hu, hz, fun e => ?_, h2, fun e => ?_⟩
  · rw [e] at h3'; simpa using h3'
  · rw [e] at h3'; simpa using h3'

theorem zero_run (hG : GOk P g V.σ) (hτ : TauOk V) {e : TypeId} {te : TI} {z : AV} (hte : g.ty.get e = some te) (hz : te.zero = some z) (hs : llen z.cells = te.size) (w : World) :
    ∃ z, (zeroValue e).run P w = .ok z w ∧ z.cells.size = te.size := by
  obtain ⟨i, zv, hi, hiz, his, hzc, hzl⟩ := zero_conc hG hte hz hτ
  refine ⟨zv, by simp [zeroValue, typeInfo, hi, hiz], ?_⟩
  have := concL_len hzl
  rw [Array.length_toList] at this
  rw [this, ← llen_eq, hs]

theorem append_nil0 (hG : GOk P g V.σ) {t e u : TypeId} {te tu : TI} {zeros : Bool} {Y : Value} {vs : List Value} {ty : TypeId} (ht : P.underlying t = some (.slice e)) (hte : g.ty.get e = some te) (hS : Src P e te u tu zeros 0 Y vs w) :
    (Builtin.append_ #[t, u] ty #[.slice none 0 0, Y]).run P w = .ok (.slice none 0 0) w := by
  have hsz := run_sizeOf' (w := w) (hG.ty _ _ hte)
  obtain ⟨bi, hbi, hbs⟩ := run_bytes (w := w) (hG.ty _ _ hte)
  cases zeros with
  | true =>
    obtain ⟨⟨k, rfl⟩, h1, h2, h3⟩ := hS.z rfl
    have hd : ∃ k, tu.desc = .int k := by
      have := hS.zk
      cases hdd : tu.desc <;> rw [hdd] at this <;> first | exact ⟨_, rfl⟩ | cases this
    obtain ⟨kd, hkd⟩ := hd
    have hund := hS.und; rw [hkd] at hund
    have hw0 : IntKind.i64.wrap ((0 : Nat) : Int) = 0 := by decide
    have hbig : ¬ ((0 : Int) * (bi.bytes : Int) > 2 ^ 48) := by simp
    have hneg : ¬ ((0 : Int) < 0) := by decide
    simp only [Builtin.append_, List.getElem?_toArray, List.getElem?_cons_zero, List.getElem?_cons_succ, Sem.run_bind, run_underlying ht, run_underlying hund, Result.andThen_ok, hsz, Sem.run_pure, asInt, asIntOf, if_true, hw0, Sem.run_ite, if_neg hneg, hbi, if_neg hbig, Int.toNat_zero, Nat.add_zero, Nat.le_refl, Nat.zero_mul, Bool.not_true, Bool.false_eq_true, if_false]
  | false =>
    obtain ⟨h1, h2⟩ := hS.nz rfl
    have hund := hS.und
    have hk := hS.zk
    cases hdd : tu.desc <;> rw [hdd] at hund hk <;> first | (cases hk; done) | skip
    all_goals
      simp only [Builtin.append_, List.getElem?_toArray, List.getElem?_cons_zero, List.getElem?_cons_succ, Sem.run_bind, run_underlying ht, run_underlying hund, Result.andThen_ok, hsz, Sem.run_pure, Bool.false_eq_true, if_false, h1, Sem.run_ite, Nat.add_zero, Nat.le_refl, Bool.not_false, if_true, h2]

/-- A slice that has grown. -/
theorem grown_ok (hG : GOk P g V.σ) (hR : Rel P V s B w) {t e u : TypeId} {te tu : TI} {zeros : Bool} {n sLen sCap : Nat} {Y : Value} {vs olds : List Value} {base : Option Addr} {ty : TypeId} {old new : List AV} {id : Nat}
    (ht : P.underlying t = some (.slice e)) (hte : g.ty.get e = some te) (hS : ∀ d, Src P e te u tu zeros n Y vs { w with drawn := d }) (hfit : sCap < sLen + n) (hb : 0 < te.bytes) (hmax : 2 * (sLen + n) * te.bytes ≤ 281474976710656)
    (hold : ∀ d, (Builtin.firstCells te.size sLen (.slice base sLen sCap)).run P { w with drawn := d } = .ok olds.toArray { w with drawn := d }) (hol : olds.length = sLen * te.size)
    (hz : ∃ z, te.zero = some z ∧ llen z.cells = te.size) (hn : newB s (.row (old ++ new) e) = some (id, s')) (hco : concL V old = some olds) (hcn : concL V new = some vs) :
    Goes P B V (.slice id 0 (sLen + n) none 0) s' (fun w => (Builtin.append_ #[t, u] ty #[.slice base sLen sCap, Y]).run P w) w := by
  obtain ⟨z, hz1, hz2⟩ := hz
  obtain ⟨cap, rest, h1, h2, h3⟩ := append_grow (ty := ty) hG ht hte hS hfit hb hmax hold hol (zero_run hG hR.τ hte hz1 hz2 _)
  have hR1 := hR.drew (w.drawn + 1)
  obtain ⟨i, hi, his, _⟩ := (hG.ty _ _ hte).info
  obtain ⟨V', k1, k2, k3⟩ := new_row (cap := cap) (rest := rest) (fz := (0, 0)) hR1 hn (concL_app hco hcn) (NoFz0 _) (fun j hj => by
    rw [hi] at hj; cases hj; rw [List.length_append, his]; omega)
  refine ⟨V', _, _, k1, k2, ?_, h3⟩
  simp only [AV.conc, k3, capOf, Nat.sub_zero]

theorem appendA_ok (hG : GOk P g V.σ) (hR : Rel P V s B w) {t u : TypeId} {tu : TI} {x y v : AV} {X Y : Value} {zeros : Bool} (ty : TypeId) (hu : P.underlying u = some tu.desc)
    (hz : zeros = (match tu.desc with | .int _ => true | _ => false)) (h : appendA g s t x y zeros = some (v, s')) (hX : x.conc V = some X) (hY : y.conc V = some Y) :
    Goes P B V v s' (fun w => (Builtin.append_ #[t, u] ty #[X, Y]).run P w) w := by
  unfold appendA at h
  split at h
  · rename_i ti hti
    have ht := (hG.ty _ _ hti).desc
    split at h
    · rename_i e hd
      rw [hd] at ht
      split at h
      · rename_i te hte
        split at h
        · rename_i n new hsrc
          obtain ⟨vs, hvs, hS⟩ := src_ok hG hR hte hu hz hsrc hY
          have hS0 : Src P e te u tu zeros n Y vs w := hS w.drawn
          cases c0 : (Nat.beq te.size 0 || Nat.beq te.bytes 0 || !allOne new || !zOk te) with
          | true => rw [c0] at h; cases h
          | false =>
            rw [c0] at h; simp only [cond_false] at h
            simp only [Bool.or_eq_false_iff, nbeq, decide_eq_false_iff_not, Bool.not_eq_false'] at c0
            obtain ⟨⟨⟨cs, cb⟩, cone⟩, cz⟩ := c0
            have hzero : ∃ z, te.zero = some z ∧ llen z.cells = te.size := by
              unfold zOk at cz
              split at cz
              · rename_i z hz; exact ⟨z, hz, by simpa using cz⟩
              · cases cz
            have hb : 0 < te.bytes := Nat.pos_of_ne_zero cb
            have hsz : 0 < te.size := Nat.pos_of_ne_zero cs
            have hvl := hS0.len
            split at h
            · -- nil
              simp only [AV.conc] at hX; cases hX
              cases c1 : Nat.beq n 0 with
              | true =>
                rw [c1] at h; cases h
                have : n = 0 := by simpa using c1
                subst this
                exact ⟨V, _, w, Ext.refl V, hR, rfl, append_nil0 hG ht hte hS0⟩
              | false =>
                rw [c1] at h; simp only [cond_false] at h
                have hn0 : n ≠ 0 := by simpa using c1
                cases c2 : Nat.ble (Nat.mul (Nat.mul 2 n) te.bytes) 281474976710656 with
                | false => rw [c2] at h; cases h
                | true =>
                  rw [c2] at h; simp only [cond_true] at h
                  have hm : 2 * n * te.bytes ≤ 281474976710656 := by simpa using c2
                  split at h
                  · rename_i id s1 hn; cases h
                    have := grown_ok (ty := ty) (old := []) (olds := []) (sLen := 0) (sCap := 0) (base := none) hG hR ht hte hS (by omega) hb (by simpa using hm) (fun d => by simp [Builtin.firstCells]) (by simp) hzero (by simpa using hn) rfl hvs
                    simpa using this
                  · cases h
            · -- a row of unknown capacity
              rename_i id len
              obtain ⟨p, hp, rfl⟩ := conc_slice hX
              simp only [capOf, Nat.sub_zero]
              split at h
              · rename_i l e' hb'
                cases ce : Nat.beq e e' with
                | false => rw [ce] at h; cases h
                | true =>
                rw [ce] at h; simp only [Bool.not_true, cond_false] at h
                have hee : e = e' := by simpa using ce
                subst hee
                obtain ⟨q, hq, hB, hO, _⟩ := hR.blk id _ hb'
                rw [hp] at hq; cases hq
                obtain ⟨cur, rest, fz, k1, k2, k3, k4⟩ := hB
                have hl := concL_len k1
                obtain ⟨ie, hie, his, _⟩ := (hG.ty _ _ hte).info
                have hcap := k4 ie hie
                rw [his] at hcap
                cases cf : Nat.ble (Nat.mul (Nat.add len n) te.size) (llen l) with
                | true =>
                  rw [cf] at h; simp only [cond_true] at h
                  rw [llen_eq] at cf
                  have cf' : (len + n) * te.size ≤ l.length := by simpa using cf
                  have hfit : len + n ≤ p.2 := by
                    refine Nat.le_of_mul_le_mul_right (c := te.size) ?_ hsz
                    rw [← hcap]; omega
                  split at h
                  · rename_i s1 hst; cases h
                    obtain ⟨w', r1, r2, r3⟩ := storeC_ok hR hst hp hvs
                    refine ⟨V, _, w', Ext.refl V, r1, ?_, append_fit hG ht hte hS0 hfit (by rw [add_at, Nat.zero_add]; exact r2)⟩
                    simp only [AV.conc, hp, capOf, Nat.sub_zero]; rfl
                  · cases h
                | false =>
                  rw [cf] at h; simp only [cond_false] at h
                  split at h
                  · rename_i old hold
                    obtain ⟨o1, o2, o3⟩ := ltake_some _ _ _ hold
                    cases c3 : (Nat.blt id big && Nat.ble (Nat.mul (Nat.mul 2 (Nat.add len n)) te.bytes) 281474976710656) with
                    | false => rw [c3] at h; cases h
                    | true =>
                      rw [c3] at h; simp only [cond_true] at h
                      simp only [nblt, nble, Bool.and_eq_true, decide_eq_true_eq] at c3
                      have hid : id < big := c3.1
                      have hm : 2 * (len + n) * te.bytes ≤ 281474976710656 := c3.2
                      split at h
                      · rename_i id' s1 hn; cases h
                        have holc : concL V old = some (cur.take (len * te.size)) := by rw [o1]; exact concL_take k1 _
                        have hol : (cur.take (len * te.size)).length = len * te.size := by rw [concL_len holc]; exact o2
                        by_cases hfit : len + n ≤ p.2
                        · -- there is room
                          have hmul := Nat.mul_le_mul_right te.size hfit
                          rw [Nat.add_mul] at hmul
                          have hroom : 0 + 0 + 0 ≤ 0 := Nat.le_refl 0
                          obtain ⟨w', m1, m2, m3, m4, m5, m6, m7⟩ := run_storeCells_own (P := P) p.1 (0 + len * te.size) e fz vs 0 (cur ++ rest) w k2 (by simpa using k3) (by simp; omega) (allOne_oneCell hvs cone)
                          have hsplit : ∃ rest', setAll (cur ++ rest) (len * te.size) vs = (cur.take (len * te.size) ++ vs) ++ rest' ∧ (len * te.size + vs.length) + rest'.length = p.2 * te.size := by
                            refine ⟨(cur ++ rest).drop (len * te.size + vs.length), ?_, ?_⟩
                            · apply List.ext_getElem?
                              intro i
                              have hg := lsetAll_get (α := Value) vs (cur ++ rest) (len * te.size) i
                              have he : lsetAll (cur ++ rest) (len * te.size) vs = setAll (cur ++ rest) (len * te.size) vs := by
                                have : ∀ (us l : List Value) (k : Nat), lsetAll l k us = setAll l k us := by
                                  intro us
                                  induction us with
                                  | nil => intro l k; rfl
                                  | cons u us ih => intro l k; simp only [lsetAll, setAll, lset_eq]; exact ih _ _
                                exact this _ _ _
                              rw [← he, hg]
                              have hlt : len * te.size ≤ cur.length := by rw [hl]; exact o3
                              by_cases i1 : i < len * te.size
                              · rw [if_neg (by omega), List.append_assoc, List.getElem?_append_left (by omega), List.getElem?_append_left (by omega)]
                                simp [i1]
                              · by_cases i2 : i < len * te.size + vs.length
                                · rw [if_pos ⟨by omega, i2, by simp; omega⟩, List.append_assoc, List.getElem?_append_right (by omega), hol, List.getElem?_append_left (by omega)]
                                · have hle : (cur.take (len * te.size) ++ vs).length ≤ i := by rw [List.length_append, hol]; omega
                                  rw [if_neg (by omega), List.getElem?_append_right hle, List.length_append, hol, List.getElem?_drop]
                                  congr 1; omega
                            · simp only [List.length_drop, List.length_append]; omega
                          obtain ⟨rest', hs1, hs2⟩ := hsplit
                          obtain ⟨r1, r2, r3⟩ := hR.rename (cap := p.2) (b' := .row (old ++ new) e) (w' := w') hid hb' rfl hp rfl hn rfl m3 m4 m5 m6 m7 (by
                            have hx := (hR.turn (b' := .dead) (s' := { s with heap := Tr.set 64 s.heap id .dead }) hid rfl hb' rfl rfl hp (fun _ _ => rfl) rfl rfl rfl rfl trivial).ext (newB_some hn).2.2.1 (p.1, p.2) none
                            refine ⟨_, rest', fz, concL_mono hx (concL_app holc hvs), ?_, ?_, ?_⟩
                            · rw [m2, Nat.add_zero, Nat.zero_add, hs1]
                            · rw [List.length_append, hol]; rw [hs2, ← hcap]; exact k3
                            · intro i hi; rw [hie] at hi; cases hi; rw [List.length_append, hol, his]; exact hs2)
                          refine ⟨_, _, w', r2, r1, ?_, append_fit hG ht hte hS0 hfit (by rw [add_at]; exact m1)⟩
                          simp only [AV.conc, r3, capOf, Nat.sub_zero]; rfl
                        · -- a new row
                          have hRd := hR.turn (b' := .dead) (s' := { s with heap := Tr.set 64 s.heap id .dead }) hid rfl hb' rfl rfl hp (fun _ _ => rfl) rfl rfl rfl rfl trivial
                          refine grown_ok (ty := ty) hG hRd ht hte hS (by omega) hb hm (fun d => ?_) hol hzero hn holc hvs
                          have hrun := run_loadCells_list (P := P) { w with drawn := d } ⟨p.1, 0, none⟩ (cur.take (len * te.size)) (fun j x hx => ?_)
                          · rw [hol] at hrun; exact hrun
                          rw [add_at, Nat.zero_add]
                          rw [List.getElem?_take] at hx
                          split at hx
                          · have hj : j < cur.length := (List.getElem?_eq_some_iff.1 hx).1
                            simp only [World.cell?, k2]
                            simp [List.getElem?_append_left hj, hx]
                          · cases hx
                      · cases h
                  · cases h
              · cases h
            · -- a row of known capacity
              rename_i id off len cp sk
              obtain ⟨p, hp, rfl⟩ := conc_slice hX
              simp only [capOf]
              cases cf : Nat.ble (Nat.add len n) cp with
              | true =>
                rw [cf] at h; simp only [cond_true] at h
                have hfit : len + n ≤ cp := by simpa using cf
                split at h
                · rename_i s1 hst; cases h
                  obtain ⟨w', r1, r2, r3⟩ := storeC_ok hR hst hp hvs
                  refine ⟨V, _, w', Ext.refl V, r1, ?_, append_fit hG ht hte hS0 hfit (by rw [add_at]; exact r2)⟩
                  simp only [AV.conc, hp, capOf]; rfl
                · cases h
              | false =>
                rw [cf] at h; simp only [cond_false] at h
                have hfit : ¬ (len + n ≤ cp) := by simpa using cf
                split at h
                · rename_i old hold
                  cases c3 : Nat.ble (Nat.mul (Nat.mul 2 (Nat.add len n)) te.bytes) 281474976710656 with
                  | false => rw [c3] at h; cases h
                  | true =>
                    rw [c3] at h; simp only [cond_true] at h
                    have hm : 2 * (len + n) * te.bytes ≤ 281474976710656 := by simpa using c3
                    split at h
                    · rename_i id' s1 hn; cases h
                      obtain ⟨olds, f1, f2, _⟩ := loadC_ok hR hold hp
                      refine grown_ok (ty := ty) hG hR ht hte hS (by omega) hb hm (fun d => ?_) f2 hzero hn f1 hvs
                      obtain ⟨olds', f1', f2', f3'⟩ := run_firstCells_slice (P := P) (size := te.size) (n := len) (len := len) (cap := cp) (hR.drew d) hold hp
                      rw [f1] at f1'; cases f1'
                      exact f3'
                    · cases h
                · cases h
            · cases h
        · cases h
      · cases h
    · cases h
  · cases h
end
end Go.Proofs.YtfpfagmmdiohbaaGreatDoor.Ev
