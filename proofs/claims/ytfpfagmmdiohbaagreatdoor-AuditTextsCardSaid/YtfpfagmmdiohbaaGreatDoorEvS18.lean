/-
  The engine is sound, 18: code; the whole.
-/
import Derived.Test.YtfpfagmmdiohbaaGreatDoorEvS17
set_option linter.unusedVariables false
set_option linter.unusedSimpArgs false
namespace Go.Proofs.YtfpfagmmdiohbaaGreatDoor.Ev
open Go.RowKit

section
variable {P : Program} {g : G}

theorem loop_step {ih : Ih} (hI : IhOk P g ih) (hLp : LoopOk P g ih) : LoopOk P g (step g ih) := by
  intro lv rd b a a' s s' e h
  simp only [step] at h
  split at h
  · rename_i a1 s1 h1
    obtain ⟨m, hm⟩ := hLp lv rd b a1 a' s1 s' e h
    refine ⟨m + 1, fun V F n B w A hG hF hL hrd hR hA => ?_⟩
    refine wpIn_mono (hI.code hG hF hL hrd hR hA h1) ?_
    rintro ex A1 w1 ⟨rfl, V1, k1, k2, k3⟩
    exact rounds_mono (CPost.mono k1) m A1 w1 (hm V1 F n B w1 A1 (k1.σ_eq hG) hF (hL.mono k1) (hrd.mono k1) k2 k3)
  · rename_i hne
    refine ⟨1, fun V F n B w A hG hF hL hrd hR hA => ?_⟩
    refine wpIn_mono (hI.code hG hF hL hrd hR hA h) ?_
    rintro ex A1 w1 ⟨rfl, V1, k1, k2, k3⟩
    cases e with
    | normal => exact (hne _ _ h).elim
    | ret => exact ⟨rfl, V1, k1, k2, k3⟩
    | exit id => exact ⟨rfl, V1, k1, k2, k3⟩
    | goto id => exact ⟨rfl, V1, k1, k2, k3⟩

theorem enter_outer {V : Env} {s s1 s2 : S} {B w : World} (hR : Rel P V s B w) {d l : Nat} {t : Tr AV} {n : Nat} {tm : Array Value} (ht : TmOk V t n tm) {ps : Array Tmp} {x y : Code} (fn : FuncId) (h1 : newB s .defd = some (d, s1)) (h2 : newB s1 (.loop .ready .normal t n d) = some (l, s2)) :
    ∃ V2, Ext V V2 ∧ V2.E d = some (w.heap.size, 0) ∧ V2.E l = some (w.heap.size + 1, 0) ∧ V2.L l = some ⟨ps, x, y⟩ ∧
      Rel P V2 s2 B ((w.alloc (.deferred (some []))).alloc (.loop { state := .ready, pending := none, fn := fn, tmps := tm, params := ps, assign := x, body := y, defers := w.heap.size })) := by
  obtain ⟨a1, a2, a3⟩ := hR.new (cap := 0) (lc := none) (o := .deferred (some [])) h1 rfl (.inl rfl) rfl
  have hsz : (w.alloc (.deferred (some []))).heap.size = w.heap.size + 1 := size_alloc _ _
  have hx := a1.ext (newB_some h2).2.2.1 ((w.alloc (.deferred (some []))).heap.size, 0) (some ⟨ps, x, y⟩)
  obtain ⟨b1, b2, b3⟩ := a1.new (cap := 0) (lc := some ⟨ps, x, y⟩) (o := .loop { state := .ready, pending := none, fn := fn, tmps := tm, params := ps, assign := x, body := y, defers := w.heap.size }) h2 rfl (.inr ⟨_, _, _, _, _, rfl⟩)
    ⟨fn, ⟨ps, x, y⟩, (w.heap.size, 0), tm, by show (if l = l then orL (some ⟨ps, x, y⟩) _ else _) = _; simp [orL], hx.E _ _ a3, TmOk_mono (a2.trans hx) ht, rfl⟩
  refine ⟨_, a2.trans b2, b2.E _ _ a3, by rw [b3, hsz], ?_, b1⟩
  show (if l = l then orL (some ⟨ps, x, y⟩) _ else _) = _
  simp [orL]

theorem enter_inner {V : Env} {s s2 : S} {B w : World} (hR : Rel P V s B w) {d l : Nat} {t : Tr AV} {n : Nat} {tm : Array Value} {pd : Nat × Nat} (ht : TmOk V t n tm) (hd : V.E d = some pd) {ps : Array Tmp} {x y : Code} (fn : FuncId) (h2 : newB s (.loop .ready .normal t n d) = some (l, s2)) :
    ∃ V2, Ext V V2 ∧ V2.E l = some (w.heap.size, 0) ∧ V2.L l = some ⟨ps, x, y⟩ ∧
      Rel P V2 s2 B (w.alloc (.loop { state := .ready, pending := none, fn := fn, tmps := tm, params := ps, assign := x, body := y, defers := pd.1 })) := by
  have hx := hR.ext (newB_some h2).2.2.1 (w.heap.size, 0) (some ⟨ps, x, y⟩)
  obtain ⟨b1, b2, b3⟩ := hR.new (cap := 0) (lc := some ⟨ps, x, y⟩) (o := .loop { state := .ready, pending := none, fn := fn, tmps := tm, params := ps, assign := x, body := y, defers := pd.1 }) h2 rfl (.inr ⟨_, _, _, _, _, rfl⟩)
    ⟨fn, ⟨ps, x, y⟩, pd, tm, by show (if l = l then orL (some ⟨ps, x, y⟩) _ else _) = _; simp [orL], hx.E _ _ hd, TmOk_mono hx ht, rfl⟩
  refine ⟨_, b2, b3, ?_, b1⟩
  show (if l = l then orL (some ⟨ps, x, y⟩) _ else _) = _
  simp [orL]

theorem run_enterLoop_inner {w : World} {l0 : Nat} {r : Loop} (h : w.heap[l0]? = some (.loop r)) (fn : FuncId) (tmps : Array Value) (ps : Array Tmp) (assign body : Code) :
    (Instr.enterLoop fn tmps ps assign body (some l0)).run P w = .ok (w.heap.size, []) (w.alloc (.loop { state := .ready, pending := none, fn, tmps, params := ps, assign, body, defers := r.defers })) := by
  unfold Instr.enterLoop
  simp only [Sem.run_bind, run_getLoop h, Result.andThen_ok, Sem.run_pure, run_newObj_alloc]

theorem lv_cons {V : Env} {lv : Lv} {l : Nat} {c : LC} (h : LvOk V lv) (hl : V.L l = some c) : LvOk V ((l, c) :: lv) := by
  intro i c' hi
  simp only [lvGet] at hi
  cases hb : Nat.beq l i with
  | true => rw [hb] at hi; simp only [cond_true] at hi; cases hi; have : l = i := by simpa using hb
            rw [← this]; exact hl
  | false => rw [hb] at hi; exact h i c' hi

/-- Behind a range over a function. -/
theorem range_end {ih : Ih} (hI : IhOk P g ih) {V V2 V3 : Env} {F : Fence} {n : Nat} {B w3 : World} {lv : Lv} {rd : Option Nat} {a a' : A} {A : Act} {s3 s' : S} {e : Ex} {l : Nat} {q : Nat × Nat} {mark : List Nat} {marks : List Deferred}
    (hG : GOk P g V.σ) (hF : FOk F) (hL : LvOk V lv) (hrd : RdOk V F rd) (k : Ext V V3) (hR : Rel P V3 s3 B w3) (hp : V3.E l = some q)
    (hA : ARel V3 { a with marks := mark ++ a.marks } { A with defers := marks ++ A.defers }) {st : LoopState} {pe : Ex} {t : Tr AV} {nn d : Nat} (hb : s3.heap.get l = some (.loop st pe t nn d)) (hst : st ≠ .busy) (hl : l < big)
    (h : (match jumpOf pe with
      | none => Out.code .normal { a with marks := mark ++ a.marks } { s3 with heap := Tr.set 64 s3.heap l (.loop .exhausted pe t nn d) }
      | some c => ih (.code lv rd c { a with marks := mark ++ a.marks }) { s3 with heap := Tr.set 64 s3.heap l (.loop .exhausted pe t nn d) }) = .code e a' s') :
    ∃ jump w4, (Instr.endLoop q.1).run P w3 = .ok jump w4 ∧ (match jump with
       | none => CPost P V B e a' s' .normal { A with defers := marks ++ A.defers } w4
       | some c => c.wpIn F n P (CPost P V B e a' s') { A with defers := marks ++ A.defers } w4) := by
  obtain ⟨fn, lc, pd, tm, h1, h2, h3, h4⟩ := loop_at hR hb hp
  have hrun := run_endLoop (P := P) h4 hst
  have hR4 := turn_loop (st' := .exhausted) (pe' := pe) hR hl hb hp h4
  refine ⟨jumpOf pe, _, hrun, ?_⟩
  cases hj : jumpOf pe with
  | none =>
    rw [hj] at h; cases h
    refine ⟨rfl, V3, k, ?_, hA⟩
    rw [← hj]; exact hR4
  | some c =>
    rw [hj] at h
    have hR4' : Rel P V3 { s3 with heap := Tr.set 64 s3.heap l (.loop .exhausted pe t nn d) } B (w3.putObj q.1 (.loop { state := .exhausted, pending := some c, fn := fn, tmps := tm, params := lc.params, assign := lc.assign, body := lc.body, defers := pd.1 })) := by
      rw [← hj]; exact hR4
    exact wpIn_mono (hI.code (k.σ_eq hG) hF (hL.mono k) (hrd.mono k) hR4' hA h) (CPost.mono k)

theorem code_ok {ih : Ih} (hI : IhOk P g ih) (hLp : LoopOk P g ih) {V : Env} {F : Fence} {n : Nat} {B w : World} {lv : Lv} {rd : Option Nat} {c : Code} {a a' : A} {A : Act} {s s' : S} {e : Ex} (hG : GOk P g V.σ) (hF : FOk F) (hL : LvOk V lv) (hrd : RdOk V F rd) (hR : Rel P V s B w) (hA : ARel V a A)
    (h : step g ih (.code lv rd c a) s = .code e a' s') : c.wpIn F n P (CPost P V B e a' s') A w := by
  cases c with
  | skip => simp only [step] at h; cases h; exact wpIn_skip ⟨rfl, V, Ext.refl V, hR, hA⟩
  | label l => simp only [step] at h; cases h; exact wpIn_label ⟨rfl, V, Ext.refl V, hR, hA⟩
  | exit id => simp only [step] at h; cases h; exact wpIn_exit ⟨rfl, V, Ext.refl V, hR, hA⟩
  | ret => simp only [step] at h; cases h; exact wpIn_ret ⟨rfl, V, Ext.refl V, hR, hA⟩
  | scope b => simp only [step] at h; cases h
  | goto l => simp only [step] at h; cases h
  | refuse l => simp only [step] at h; cases h
  | region id ops draw =>
    simp only [step] at h
    cases draw with
    | true =>
      simp only [cond_true] at h
      exact runDraw_ok hI hF CPost.noPanic hG hL hR hA h (fun V' A' w' k1 k2 k3 => ⟨rfl, V', k1, k2, k3⟩)
    | false =>
      simp only [cond_false] at h
      refine wpIn_region ?_
      have := runOps_ok (F := F) (n := n) (Q := CPost P V B e a' s') hI hF ops.toList 0 V a s A w e a' s' hG hL hR hA (by simp) h (fun V' A' w' k1 k2 k3 => ⟨rfl, V', k1, k2, k3⟩)
      rw [List.range_eq_range']
      simpa using this
  | seq x y =>
    simp only [step] at h
    split at h
    · rename_i a1 s1 h1
      refine wpIn_seq (wpIn_mono (hI.code hG hF hL hrd hR hA h1) ?_)
      rintro ex A1 w1 ⟨rfl, V1, k1, k2, k3⟩
      exact wpIn_mono (hI.code (k1.σ_eq hG) hF (hL.mono k1) (hrd.mono k1) k2 k3 h) (CPost.mono k1)
    · rename_i hne
      refine wpIn_seq (wpIn_mono (hI.code hG hF hL hrd hR hA h) ?_)
      rintro ex A1 w1 ⟨rfl, V1, k1, k2, k3⟩
      cases e with
      | normal => exact (hne _ _ h).elim
      | ret => exact ⟨rfl, V1, k1, k2, k3⟩
      | exit id => exact ⟨rfl, V1, k1, k2, k3⟩
      | goto id => exact ⟨rfl, V1, k1, k2, k3⟩
  | cond x y z =>
    simp only [step] at h
    split at h
    · rename_i b hb
      have := evO_ok hA hR.globOk hb
      simp only [AV.conc, Option.some.injEq] at this
      refine wpIn_cond (t := b) this.symm ?_
      cases b with
      | true => exact hI.code hG hF hL hrd hR hA h
      | false => exact hI.code hG hF hL hrd hR hA h
    · cases h
  | block id b =>
    simp only [step] at h
    split at h
    · rename_i i a1 s1 h1
      refine wpIn_block (wpIn_mono (hI.code hG hF hL hrd hR hA h1) ?_)
      rintro ex A1 w1 ⟨rfl, V1, k1, k2, k3⟩
      cases hc : Nat.beq i id with
      | true =>
        rw [hc] at h; simp only [cond_true] at h; cases h
        have : i = id := by simpa using hc
        show (if i = id then _ else _)
        rw [if_pos this]; exact ⟨rfl, V1, k1, k2, k3⟩
      | false =>
        rw [hc] at h; simp only [cond_false] at h; cases h
        have : ¬ i = id := by simpa using hc
        show (if i = id then _ else _)
        rw [if_neg this]; exact ⟨rfl, V1, k1, k2, k3⟩
    · rename_i hne
      refine wpIn_block (wpIn_mono (hI.code hG hF hL hrd hR hA h) ?_)
      rintro ex A1 w1 ⟨rfl, V1, k1, k2, k3⟩
      cases e with
      | normal => exact ⟨rfl, V1, k1, k2, k3⟩
      | ret => exact ⟨rfl, V1, k1, k2, k3⟩
      | exit id => exact (hne _ _ _ h).elim
      | goto id => exact ⟨rfl, V1, k1, k2, k3⟩
  | loop b =>
    obtain ⟨m, hm⟩ := loop_step hI hLp lv rd b a a' s s' e h
    exact wpIn_loop_rounds m (hm V F n B w A hG hF hL hrd hR hA)
  | rangeFunc f params assign body =>
    simp only [step] at h
    split at h
    · rename_i kf first captured hf
      split at h
      · cases h
      · rename_i fi hfi
        obtain ⟨fs, cs, f1, f2, f3⟩ := conc_func (evO_ok hA hR.globOk hf)
        refine wpIn_rangeFunc (fun fn _ => ?_)
        -- the one call, and what follows
        have rest : ∀ (V2 : Env) (s2 s3 : S) (l : Nat) (q : Nat × Nat) (w2 : World) (mark : List Nat) (marks : List Deferred) (v : AV), Ext V V2 → Rel P V2 s2 B w2 → V2.E l = some q → V2.L l = some ⟨params, assign, body⟩ →
            ARel V2 { a with marks := mark ++ a.marks } { A with defers := marks ++ A.defers } → ih (.call ((l, ⟨params, assign, body⟩) :: lv) kf ((first ++ [.yield l]) ++ captured)) s2 = .val v s3 →
            (match s3.heap.get l with
              | some (.loop st pe t n d) =>
                (match st with
                 | .busy => Out.err 73
                 | _ => bif Nat.blt l big then
                     match jumpOf pe with
                     | none => .code .normal { a with marks := mark ++ a.marks } { s3 with heap := Tr.set 64 s3.heap l (.loop .exhausted pe t n d) }
                     | some c => ih (.code lv rd c { a with marks := mark ++ a.marks }) { s3 with heap := Tr.set 64 s3.heap l (.loop .exhausted pe t n d) }
                   else .err 74)
              | _ => .err 75) = .code e a' s' →
            ∃ (d : Deferred) (w₁' : World) (f' : FuncId) (args : Array Value) (w₂ : World), (resolve A.eval (rangeCall f q.1) 0).run P w2 = .ok d w₁' ∧ (∀ f', Target.leads P w₁' d.target d.args = some f' → F.fn f') ∧ (invoke d.target d.args).run P w₁' = .ok (.enter f' args) w₂ ∧
              (F.depth.isSome = true → 1 ≤ n) ∧ CallsIn F (n - 1) P f' args w₂ (rangePost F n P q.1 (CPost P V B e a' s') { A with defers := marks ++ A.defers }) := by
          intro V2 s2 s3 l q w2 mark marks v x1 x2 x3 x4 x5 hc hh
          have hargs : concL V2 ((first ++ [.yield l]) ++ captured) = some ((fs ++ [Value.func (.yield q.1) #[] #[]]) ++ cs) :=
            concL_app (concL_app (concL_mono x1 f1) (concL_mk (by simp only [AV.conc, x3]) (concL_nil V2))) (concL_mono x1 f2)
          refine ⟨{ target := .fn (.func kf) cs.toArray, args := fs.toArray ++ #[.func (.yield q.1) #[] #[]] }, w2, kf, ((fs ++ [Value.func (.yield q.1) #[] #[]]) ++ cs).toArray, w2, ?_, fun f' _ => hF.1 f', ?_, depth_ok hF, ?_⟩
          · simp only [resolve, f3]
            simp [go_sem]
          · have := (hG.fn kf fi hfi).call ((fs ++ [Value.func (.yield q.1) #[] #[]]) ++ cs).toArray w2
            rw [← this]
            simp only [invoke]
            congr 2
            apply Array.ext'; simp
          · refine (hI.call (F := F) (n := n - 1) (x1.σ_eq hG) hF (lv_cons (hL.mono x1) x4) x2 hargs hc).mono ?_
            rintro en w3 ⟨V3, y, z1, z2, z3, rfl⟩
            show ∃ jump w₄, _ ∧ _
            split at hh
            · rename_i st pe t nn d hb
              split at hh
              · cases hh
              · rename_i hst
                cases cl : Nat.blt l big with
                | false => rw [cl] at hh; cases hh
                | true =>
                  rw [cl] at hh; simp only [cond_true] at hh
                  exact range_end (V2 := V2) hI hG hF hL hrd (x1.trans z1) z2 (z1.E _ _ x3) (x5.mono z1) hb (fun e => hst (by rw [e])) (by simpa using cl) hh
            · cases hh
        cases rd with
        | none =>
          have hro : F.round = none := hrd
          rw [hro]
          simp only at h
          cases hd : newB s .defd with
          | none => rw [hd] at h; cases h
          | some ds =>
            obtain ⟨d, s1⟩ := ds
            rw [hd] at h; simp only at h
            cases hl : newB s1 (.loop .ready .normal a.tmps a.n d) with
            | none => rw [hl] at h; cases h
            | some ls =>
              obtain ⟨l, s2⟩ := ls
              rw [hl] at h; simp only at h
              obtain ⟨V2, e1, e2, e3, e4, e5⟩ := enter_outer hR hA.tm (ps := params) (x := assign) (y := body) fn hd hl
              obtain ⟨ps, m1, m2, m3⟩ := hA.marks
              split at h
              · rename_i v s3 hc
                obtain ⟨dd, w₁', f', args, w₂, q1, q2, q3, q4, q5⟩ := rest V2 s2 s3 l (w.heap.size + 1, 0) _ [d] [{ target := .collected w.heap.size, args := #[] }] v e1 e5 e3 e4
                  ⟨TmOk_mono e1 hA.tm, (w.heap.size, 0) :: ps, by simp [m1], fun i d' p' hh1 hh2 => by
                    cases i with
                    | zero => simp at hh1 hh2; rw [← hh1, ← hh2]; exact e2
                    | succ i => simp at hh1 hh2; exact e1.E _ _ (m2 i d' p' hh1 hh2), by simp [m3]⟩ hc h
                exact ⟨_, _, _, dd, w₁', f', args, w₂, run_enterLoop_outer _ _ _ _ _, q1, q2, q3, q4, q5⟩
              · cases h
              · cases h
        | some l0 =>
          obtain ⟨p0, hp0, hro⟩ := hrd
          rw [hro]
          simp only at h
          split at h
          · rename_i hx0; cases h
          · rename_i d mark s1 hx0
            split at hx0
            · rename_i st0 pe0 t0 n0 d0 hb0
              cases hx0
              obtain ⟨fn0, lc0, pd0, tm0, g1, g2, g3, g4⟩ := loop_at hR hb0 hp0
              cases hl : newB s (.loop .ready .normal a.tmps a.n d) with
              | none => rw [hl] at h; cases h
              | some ls =>
                obtain ⟨l, s2⟩ := ls
                rw [hl] at h; simp only at h
                obtain ⟨V2, e1, e3, e4, e5⟩ := enter_inner hR hA.tm g2 (ps := params) (x := assign) (y := body) fn hl
                split at h
                · rename_i v s3 hc
                  obtain ⟨dd, w₁', f', args, w₂, q1, q2, q3, q4, q5⟩ := rest V2 s2 s3 l (w.heap.size, 0) _ [] [] v e1 e5 e3 e4 (hA.mono e1) hc h
                  exact ⟨_, _, _, dd, w₁', f', args, w₂, run_enterLoop_inner g4 _ _ _ _ _, q1, q2, q3, q4, q5⟩
                · cases h
                · cases h
            · cases hx0
    · cases h

theorem step_ok {ih : Ih} (hI : IhOk P g ih) (hLp : LoopOk P g ih) : IhOk P g (step g ih) ∧ LoopOk P g (step g ih) :=
  ⟨⟨fun hG hF hL hrd hR hA h => code_ok hI hLp hG hF hL hrd hR hA h, fun hG hF hL hR hx h => call_ok hI hG hF hL hR hx h, fun hG hF hL hR hp hx h => yield_ok hI hG hF hL hR hp hx h⟩, loop_step hI hLp⟩

/-- **THE EVALUATOR IS SOUND.** -/
theorem ev_ok : ∀ n, IhOk P g (ev g n) ∧ LoopOk P g (ev g n)
  | 0 => ⟨⟨fun _ _ _ _ _ _ h => by simp [ev] at h, fun _ _ _ _ _ h => by simp [ev] at h, fun _ _ _ _ _ _ h => by simp [ev] at h⟩, fun _ _ _ _ _ _ _ _ h => by simp [ev] at h⟩
  | n + 1 => step_ok (ev_ok n).1 (ev_ok n).2

/-- A call that the evaluator has run. -/
theorem ev_calls {fuel : Nat} {V : Env} {B w : World} {f : FuncId} {args : List AV} {xs : List Value} {v : AV} {s s' : S} (hG : GOk P g V.σ) (hR : Rel P V s B w) (hx : concL V args = some xs)
    (h : ev g fuel (.call [] f args) s = .val v s') : Calls P f xs.toArray w (VPost P V B v s') :=
  callsIn_wide.1 ((ev_ok fuel).1.call (F := Fence.wide) (n := 0) (lv := []) hG ⟨fun _ => trivial, rfl⟩ (fun i c h => by simp [lvGet] at h) hR hx h)
end
#print axioms ev_calls
end Go.Proofs.YtfpfagmmdiohbaaGreatDoor.Ev
