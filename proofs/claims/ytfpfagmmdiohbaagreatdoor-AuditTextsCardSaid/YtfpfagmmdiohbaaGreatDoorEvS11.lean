/-
  The engine is sound, 11: all operations.
-/
import Derived.Test.YtfpfagmmdiohbaaGreatDoorEvS10
set_option linter.unusedVariables false
set_option linter.unusedSimpArgs false
namespace Go.Proofs.YtfpfagmmdiohbaaGreatDoor.Ev
open Go.RowKit

section
variable {P : Program} {g : G} {V : Env} {s : S} {B w : World} {a : A} {A : Act}

def OpGoes (P : Program) (B : World) (V : Env) (A : Act) (o : Oper) (v : AV) (s' : S) (w : World) : Prop :=
  ∃ V' x w', Ext V V' ∧ Rel P V' s' B w' ∧ v.conc V' = some x ∧ ((execOp A.eval o).run P w = .ok (.value x) w' ∨ ((execOp A.eval o).run P w = .ok .skip w' ∧ x = undef))

def OpOk (P : Program) (g : G) (B : World) (V : Env) (A : Act) (o : Oper) (w : World) : OpR → Prop
  | .val v s' => OpGoes P B V A o v s' w
  | .enter f args => (∃ fi, g.fn.get f = some fi) ∧ ∃ xs, concL V args = some xs ∧ (execOp A.eval o).run P w = .ok (.enter f xs.toArray) w
  | .yield l args => ∃ p xs, V.E l = some p ∧ concL V args = some xs ∧ (execOp A.eval o).run P w = (Instr.yield p.1 xs.toArray).run P w
  | .err _ => True

/-- An operation that gives a value by a run. -/
theorem goes_of {o : Oper} {v : AV} {s' : S} {m : Sem Value} (h : Goes P B V v s' (fun w => m.run P w) w) (he : execOp A.eval o = (do pure (Next.value (← m)) : Sem Next)) : OpGoes P B V A o v s' w := by
  obtain ⟨V', x, w', h1, h2, h3, h4⟩ := h
  refine ⟨V', x, w', h1, h2, h3, .inl ?_⟩
  rw [he]; simp only [Sem.run_bind, h4, Result.andThen_ok, Sem.run_pure]
theorem skip_of {o : Oper} {s' : S} {m : Sem Unit} {w' : World} (hR : Rel P V s' B w') (h : m.run P w = .ok () w') (he : execOp A.eval o = (do m; pure Next.skip : Sem Next)) : OpGoes P B V A o undefA s' w := by
  refine ⟨V, undef, w', Ext.refl V, hR, rfl, .inr ⟨?_, rfl⟩⟩
  rw [he]; simp only [Sem.run_bind, h, Result.andThen_ok, Sem.run_pure]

theorem opB_ok {r : Option (Nat × S)} {f : Nat → AV} {n : Nat} {o : Oper} (h : ∀ id s', r = some (id, s') → OpGoes P B V A o (f id) s' w) : OpOk P g B V A o w (opB r f n) := by
  cases r with
  | none => trivial
  | some p => exact h p.1 p.2 rfl
theorem opV_ok {r : Option AV} {n : Nat} {o : Oper} (h : ∀ v, r = some v → OpGoes P B V A o v s w) : OpOk P g B V A o w (opV r s n) := by
  cases r with
  | none => trivial
  | some p => exact h p rfl

def BRes (P : Program) (B : World) (V : Env) (w : World) (m : Sem Next) : OpR → Prop
  | .val v s' => ∃ V' x w', Ext V V' ∧ Rel P V' s' B w' ∧ v.conc V' = some x ∧ m.run P w = .ok (.value x) w'
  | .err _ => True
  | _ => False
theorem BRes.err (m : Sem Next) (n : Nat) : BRes P B V w m (.err n) := trivial
theorem BRes.val {m : Sem Next} {v : AV} {s' : S} (h : ∃ V' x w', Ext V V' ∧ Rel P V' s' B w' ∧ v.conc V' = some x ∧ m.run P w = .ok (.value x) w') : BRes P B V w m (.val v s') := h

theorem builtinA_ok (hG : GOk P g V.σ) (hR : Rel P V s B w) {b : Builtin} {ats : Array TypeId} {args : List AV} {xs : List Value} (ty : TypeId) (cs : Array Bool) (hx : concL V args = some xs) :
    BRes P B V w (builtin b ats ty cs xs.toArray) (builtinA g s b ats args) := by
  obtain ⟨ats⟩ := ats
  unfold builtinA
  split
  · -- the length of a map
    rename_i t ts x r e1; cases e1
    obtain ⟨X, xr, rfl, hX, _⟩ := concL_cons hx
    split
    · rename_i ti hti
      have hu := (hG.ty _ _ hti).desc
      split
      · rename_i kt et es hd hm
        rw [hd] at hu
        refine BRes.val ⟨V, _, w, Ext.refl V, hR, rfl, ?_⟩
        have e : (Builtin.len_ ⟨t :: ts⟩ ty (X :: xr).toArray).run P w = .ok (goInt es.length) w := by
          rcases mapOf_ok hR hm hX with ⟨rfl, rfl⟩ | ⟨r0, ms, c, rfl, k1, k2⟩
          · simp [Builtin.len_, run_underlying hu]
          · simp [Builtin.len_, run_underlying hu, run_getObj_m k2, k1.len]
        show (do pure (Next.value (← Builtin.len_ ⟨t :: ts⟩ ty (X :: xr).toArray)) : Sem Next).run P w = _
        simp only [Sem.run_bind, e, Result.andThen_ok, Sem.run_pure, llen_eq]
        rfl
      · exact BRes.err _ _
    · exact BRes.err _ _
  · -- append
    rename_i t u x y e1; cases e1
    obtain ⟨X, xr, rfl, hX, hr⟩ := concL_cons hx
    obtain ⟨Y, yr, rfl, hY, hr'⟩ := concL_cons hr
    cases hr'
    have fin : ∀ {v : AV} {s' : S}, Goes P B V v s' (fun w => (Builtin.append_ #[t, u] ty #[X, Y]).run P w) w → ∃ V' x w', Ext V V' ∧ Rel P V' s' B w' ∧ v.conc V' = some x ∧ (builtin .append ⟨[t, u]⟩ ty cs [X, Y].toArray).run P w = .ok (.value x) w' := by
      rintro v s' ⟨V', x, w', h1, h2, h3, h4⟩
      refine ⟨V', x, w', h1, h2, h3, ?_⟩
      show (do pure (Next.value (← Builtin.append_ #[t, u] ty #[X, Y])) : Sem Next).run P w = _
      simp only [Sem.run_bind, h4, Result.andThen_ok, Sem.run_pure]
    split
    · rename_i tu htu
      have hu := (hG.ty _ _ htu).desc
      split
      · rename_i k hd
        split
        · rename_i v s' ha
          exact BRes.val (fin (appendA_ok hG hR ty hu (by rw [hd]) ha hX hY))
        · exact BRes.err _ _
      · rename_i hd
        split
        · rename_i v s' ha
          refine BRes.val (fin (appendA_ok hG hR ty hu ?_ ha hX hY))
          cases hdd : tu.desc <;> first | rfl | exact (hd _ hdd).elim
        · exact BRes.err _ _
    · exact BRes.err _ _
  · -- copy
    rename_i t ts x y e1; cases e1
    obtain ⟨X, xr, rfl, hX, hr⟩ := concL_cons hx
    obtain ⟨Y, yr, rfl, hY, hr'⟩ := concL_cons hr
    cases hr'
    split
    · rename_i n s' ha
      obtain ⟨w', h1, h2⟩ := copyA_ok (rest := []) (ats := ts) hG hR ty ha hX hY
      refine BRes.val ⟨V, _, w', Ext.refl V, h1, rfl, ?_⟩
      show (do pure (Next.value (← Builtin.copy_ ⟨t :: ts⟩ ty ⟨[X, Y]⟩)) : Sem Next).run P w = _
      simp only [Sem.run_bind, h2, Result.andThen_ok, Sem.run_pure]
      rfl
    · exact BRes.err _ _
  · -- delete
    rename_i t ts m k e1; cases e1
    obtain ⟨X, xr, rfl, hX, hr⟩ := concL_cons hx
    obtain ⟨K, yr, rfl, hK, hr'⟩ := concL_cons hr
    cases hr'
    split
    · rename_i ti id hti
      have hu := (hG.ty _ _ hti).desc
      obtain ⟨p, hp, rfl⟩ := conc_map hX
      split
      · rename_i kt et es clock hd hb
        rw [hd] at hu
        cases c : (keyPlain g 100 kt k && Nat.blt id big) with
        | false => exact BRes.err _ _
        | true =>
          simp only [Bool.and_eq_true, nblt, decide_eq_true_eq] at c
          obtain ⟨q, hq, hB, _⟩ := hR.blk id _ hb
          rw [hp] at hq; cases hq
          obtain ⟨ms, k1, k2⟩ := hB
          have hck := (keyPlain_ok hG ms.toArray.isEmpty 100 kt k K c.1 hK 10000 (by omega)).1
          obtain ⟨tk, htk⟩ : ∃ d, P.underlying kt = some d := by
            have := c.1
            unfold keyPlain at this
            split at this
            · cases this
            · rename_i tk htk; exact ⟨_, (hG.ty _ _ htk).desc⟩
          simp only [cond_true]
          split
          · rename_i i v hf
            obtain ⟨r', f1, f2⟩ := run_findKey hG hK htk k1 hf
            cases r' with
            | none => exact f1.elim
            | some r' =>
              obtain ⟨j, x⟩ := r'
              obtain ⟨rfl, hv⟩ := f1
              refine BRes.val ⟨V, .tuple #[], _, Ext.refl V, turn_map (c' := clock) hR c.2 hb hp (k1.del (i := i)), rfl, ?_⟩
              show (do pure (Next.value (← Builtin.delete_ ⟨t :: ts⟩ ty #[.map (some p.1), K])) : Sem Next).run P w = _
              simp only [Builtin.delete_, List.getElem?_toArray, List.getElem?_cons_zero, List.getElem?_cons_succ, Sem.run_bind, run_underlying hu, Result.andThen_ok, run_getObj_m k2, hck, f2, run_setObj_m _ k2, Sem.run_pure]
              congr 4
              simp
          · rename_i hf
            obtain ⟨r', f1, f2⟩ := run_findKey hG hK htk k1 hf
            cases r' with
            | some r' => exact f1.elim
            | none =>
              have hRs : Rel P V s B { w with heap := w.heap.setIfInBounds p.1 (.map ms.toArray clock) } := by
                have e : w.heap.setIfInBounds p.1 (.map ms.toArray clock) = w.heap := by
                  apply Array.ext_getElem?
                  intro j
                  by_cases hj : p.1 = j
                  · subst hj
                    have hlt : p.1 < w.heap.size := (Array.getElem?_eq_some_iff.1 k2).1
                    rw [k2]; simp [hlt]
                  · rw [Array.getElem?_setIfInBounds_ne hj]
                rw [e]; exact hR
              refine BRes.val ⟨V, .tuple #[], _, Ext.refl V, hRs, rfl, ?_⟩
              show (do pure (Next.value (← Builtin.delete_ ⟨t :: ts⟩ ty #[.map (some p.1), K])) : Sem Next).run P w = _
              simp only [Builtin.delete_, List.getElem?_toArray, List.getElem?_cons_zero, List.getElem?_cons_succ, Sem.run_bind, run_underlying hu, Result.andThen_ok, run_getObj_m k2, hck, f2, run_setObj_m _ k2, Sem.run_pure]
          · exact BRes.err _ _
      · exact BRes.err _ _
    · exact BRes.err _ _
  · exact BRes.err _ _

theorem bytesB_ok {l : List AV} {bs : List UInt8} : ∀ {vs : List Value}, bytesB l = some bs → concL V l = some vs → ∃ ns : List Int, vs = ns.map (fun n => .int .u8 n) ∧ bs = ns.map (fun n => UInt8.ofNat n.toNat) := by
  induction l generalizing bs with
  | nil => intro vs h hc; simp [bytesB] at h; subst h; cases hc; exact ⟨[], rfl, rfl⟩
  | cons x xs ih =>
    intro vs h hc
    obtain ⟨v, r, rfl, hv, hr⟩ := concL_cons hc
    unfold bytesB at h
    split at h
    · rename_i h0; cases h0
    · rename_i n l0 e0; cases e0
      split at h
      · rename_i r0 hr0; cases h
        obtain ⟨ns, e1, e2⟩ := ih hr0 hr
        simp only [AV.conc] at hv; cases hv
        exact ⟨n :: ns, by simp [e1, IE.val], by simp [e2]⟩
      · cases h
    · cases h

end
end Go.Proofs.YtfpfagmmdiohbaaGreatDoor.Ev
