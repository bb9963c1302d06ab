/-
  The engine is sound, 17: code, calls, rounds.
-/
import Derived.Test.YtfpfagmmdiohbaaGreatDoorEvS16
import Derived.LoopNIn
import Derived.RangeFuncRecord
set_option linter.unusedVariables false
set_option linter.unusedSimpArgs false
namespace Go.Proofs.YtfpfagmmdiohbaaGreatDoor.Ev
open Go.RowKit

def LoopOk (P : Program) (g : G) (ih : Ih) : Prop :=
  ∀ (lv : Lv) (rd : Option Nat) (b : Code) (a a' : A) (s s' : S) (e : Ex), ih (.code lv rd (.loop b) a) s = .code e a' s' →
    ∃ m, ∀ (V : Env) (F : Fence) (n : Nat) (B w : World) (A : Act), GOk P g V.σ → FOk F → LvOk V lv → RdOk V F rd → Rel P V s B w → ARel V a A → Code.roundsIn F n P b (CPost P V B e a' s') m A w

section
variable {P : Program} {g : G}

theorem CPost.mono {V V' : Env} {B : World} {e : Ex} {a : A} {s : S} (k : Ext V V') : ∀ ex A w, CPost P V' B e a s ex A w → CPost P V B e a s ex A w := fun _ _ _ ⟨h1, V2, h2, h3, h4⟩ => ⟨h1, V2, k.trans h2, h3, h4⟩
theorem CPost.noPanic {V : Env} {B : World} {e : Ex} {a : A} {s : S} : ∀ c A w, ¬ CPost P V B e a s (.panic c) A w := fun c A w ⟨h, _⟩ => by cases e <;> cases h
theorem VPost.mono {V V' : Env} {B : World} {v : AV} {s : S} (k : Ext V V') : ∀ en w, VPost P V' B v s en w → VPost P V B v s en w := fun _ _ ⟨V2, x, h1, h2, h3, h4⟩ => ⟨V2, x, k.trans h1, h2, h3, h4⟩

theorem rounds_mono {F : Fence} {n : Nat} {b : Code} {Q Q' : Exit → Act → World → Prop} (hq : ∀ e a w, Q e a w → Q' e a w) : ∀ (m : Nat) (A : Act) (w : World), Code.roundsIn F n P b Q m A w → Code.roundsIn F n P b Q' m A w := by
  intro m
  induction m with
  | zero => intro A w h; exact h
  | succ m ih =>
    intro A w h
    refine wpIn_mono h (fun e a w h => ?_)
    cases e with
    | normal => exact ih a w h
    | _ => exact hq _ _ _ h

/-! ### The loop's record -/
theorem loop_at {V : Env} {s : S} {B w : World} (hR : Rel P V s B w) {l : Nat} {st : LoopState} {pe : Ex} {t : Tr AV} {n d : Nat} {p : Nat × Nat} (hb : s.heap.get l = some (.loop st pe t n d)) (hp : V.E l = some p) :
    ∃ fn lc pd tm, V.L l = some lc ∧ V.E d = some pd ∧ TmOk V t n tm ∧ w.heap[p.1]? = some (.loop { state := st, pending := jumpOf pe, fn := fn, tmps := tm, params := lc.params, assign := lc.assign, body := lc.body, defers := pd.1 }) := by
  obtain ⟨q, hq, hB, _⟩ := hR.blk l _ hb
  rw [hp] at hq; cases hq
  exact hB
theorem turn_loop {V : Env} {s : S} {B w : World} (hR : Rel P V s B w) {l : Nat} {st st' : LoopState} {pe pe' : Ex} {t : Tr AV} {n d : Nat} {p : Nat × Nat} (hl : l < big) (hb : s.heap.get l = some (.loop st pe t n d)) (hp : V.E l = some p) {r : Loop} (hr : w.heap[p.1]? = some (.loop r)) :
    Rel P V { s with heap := Tr.set 64 s.heap l (.loop st' pe' t n d) } B (w.putObj p.1 (.loop { r with state := st', pending := jumpOf pe' })) := by
  obtain ⟨fn, lc, pd, tm, h1, h2, h3, h4⟩ := loop_at hR hb hp
  rw [hr] at h4; cases h4
  have hlt : p.1 < w.heap.size := (Array.getElem?_eq_some_iff.1 hr).1
  refine hR.turn (b' := .loop st' pe' t n d) hl rfl hb rfl rfl hp (fun k hk => World.putObj_heap_other hk) (by simp) rfl rfl rfl ?_
  exact ⟨fn, lc, pd, tm, h1, h2, h3, World.putObj_heap_same hlt⟩

theorem setTmps_ok {V : Env} : ∀ {ps : List Tmp} {vs : List AV} {xs : List Value} {t t' : Tr AV} {n : Nat} {tm : Array Value}, setTmps t n ps vs = some t' → concL V vs = some xs → TmOk V t n tm →
    ps.length = xs.length ∧ TmOk V t' n ((ps.zip xs).foldl (fun tmps (x : Tmp × Value) => tmps.setIfInBounds x.1 x.2) tm) := by
  intro ps
  induction ps with
  | nil =>
    intro vs xs t t' n tm h hc ht
    cases vs with
    | nil => simp [setTmps] at h; subst h; cases hc; exact ⟨rfl, ht⟩
    | cons v vs => simp [setTmps] at h
  | cons p ps ih =>
    intro vs xs t t' n tm h hc ht
    cases vs with
    | nil => simp [setTmps] at h
    | cons v vs =>
      obtain ⟨x, r, rfl, hx, hr⟩ := concL_cons hc
      simp only [setTmps] at h
      cases c : (Nat.blt p n && Nat.blt p big) with
      | false => rw [c] at h; cases h
      | true =>
        rw [c] at h; simp only [cond_true] at h
        simp only [nblt, Bool.and_eq_true, decide_eq_true_eq] at c
        have ht' : TmOk V (Tr.set 64 t p v) n (tm.setIfInBounds p x) := by
          refine ⟨by simp [ht.1], fun k => ?_⟩
          rw [Tr.get_set64 _ _ _ _ c.2]
          by_cases hk : k = p
          · subst hk
            simp only [if_true]
            have : (tm.setIfInBounds k x).getD k undef = x := by simp [ht.1, c.1]
            rw [this]; exact hx
          · rw [if_neg hk]
            have : (tm.setIfInBounds p x).getD k undef = tm.getD k undef := by
              simp [Array.getElem?_setIfInBounds_ne (fun e => hk e.symm)]
            rw [this]; exact ht.2 k
        obtain ⟨h1, h2⟩ := ih h hr ht'
        exact ⟨by simp [h1], h2⟩

theorem ofArgs_get : ∀ (vs : List AV) (i : Nat) (t : Tr AV) (k : Nat), i + vs.length < big → (ofArgs i t vs).get k = if i ≤ k ∧ k < i + vs.length then vs[k - i]? else t.get k := by
  intro vs
  induction vs with
  | nil => intro i t k _; simp [ofArgs]; omega
  | cons v vs ih =>
    intro i t k h
    simp only [List.length_cons] at h
    simp only [ofArgs]
    rw [ih (Nat.succ i) _ k (by omega), Tr.get_set64 _ _ _ _ (by omega)]
    simp only [List.length_cons]
    by_cases h1 : k = i
    · subst h1
      rw [if_neg (by omega), if_pos rfl, if_pos (by omega)]; simp
    · by_cases h2 : Nat.succ i ≤ k ∧ k < Nat.succ i + vs.length
      · rw [if_pos h2, if_pos (by omega)]
        obtain ⟨m, rfl⟩ : ∃ m, k = i + 1 + m := ⟨k - (i + 1), by omega⟩
        have e1 : i + 1 + m - Nat.succ i = m := by omega
        have e2 : i + 1 + m - i = m + 1 := by omega
        rw [e1, e2]; simp
      · rw [if_neg h2, if_neg h1, if_neg (by omega)]

theorem enter_ok {V : Env} {args : List AV} {xs : List Value} {nt : Nat} (hc : concL V args = some xs) (h1 : args.length ≤ nt) (h2 : nt ≤ 100000) : ARel V { tmps := ofArgs 0 .e args, n := nt, marks := [] } { tmps := xs.toArray ++ Array.replicate (nt - xs.toArray.size) undef, defers := [] } := by
  have hl := concL_len hc
  refine ⟨⟨by simp; omega, fun k => ?_⟩, [], rfl, fun i d p h => by simp at h, rfl⟩
  have hb : 0 + args.length < big := by unfold big; omega
  rw [ofArgs_get args 0 .e k hb]
  by_cases hk : k < args.length
  · rw [if_pos ⟨Nat.zero_le _, by omega⟩, Nat.sub_zero, List.getElem?_eq_getElem hk]
    obtain ⟨x, e1, e2⟩ := concL_get hc (List.getElem?_eq_getElem hk)
    have : (xs.toArray ++ Array.replicate (nt - xs.toArray.size) undef).getD k undef = x := by
      have hkx : k < xs.length := by omega
      simp [Array.getD_eq_getD_getElem?, Array.getElem?_append, hkx]
      have := (List.getElem?_eq_some_iff.1 e1).2
      exact this
    rw [this]; exact e2
  · rw [if_neg (by omega)]
    have : (xs.toArray ++ Array.replicate (nt - xs.toArray.size) undef).getD k undef = undef := by
      have hkx : ¬ k < xs.length := by omega
      simp [Array.getD_eq_getD_getElem?, Array.getElem?_append, hkx, Array.getElem?_replicate]
      split <;> rfl
    rw [this]; rfl

theorem takeMarks_ok {F : Fence} {n : Nat} {fn : Func} {tmps : Array Value} {R : Ending → World → Prop} : ∀ {ms : List Nat} {V : Env} {s s' : S} {B w : World} {ps : List (Nat × Nat)}, Rel P V s B w → takeMarks s ms = some s' → ps.length = ms.length → (∀ (i d : Nat) (p : Nat × Nat), ms[i]? = some d → ps[i]? = some p → V.E d = some p) →
    (∀ w', Rel P V s' B w' → LeavesIn F n P fn tmps R [] .returning w') → LeavesInM F n P fn tmps R (ps.map fun p => { target := .collected p.1, args := #[] }) .returning w := by
  intro ms
  induction ms with
  | nil =>
    intro V s s' B w ps hR h hl _ hK
    have : ps = [] := List.length_eq_zero_iff.1 hl
    subst this
    simp [takeMarks] at h; subst h
    exact hK w hR
  | cons d ms ih =>
    intro V s s' B w ps hR h hl hE hK
    cases ps with
    | nil => simp at hl
    | cons p ps =>
      have hp : V.E d = some p := hE 0 d p rfl rfl
      simp only [takeMarks] at h
      split at h
      · rename_i hb
        cases c : Nat.blt d big with
        | false => rw [c] at h; cases h
        | true =>
          rw [c] at h; simp only [cond_true] at h
          have hd : d < big := by simpa using c
          obtain ⟨q, hq, hB, _⟩ := hR.blk d _ hb
          rw [hp] at hq; cases hq
          have hB' : w.heap[p.1]? = some (.deferred (some [])) := hB
          refine ⟨by simp, .inl ⟨p.1, _, rfl, run_takeDeferred hB', ?_⟩⟩
          have hR' : Rel P V { s with heap := Tr.set 64 s.heap d .dead } B (w.putObj p.1 (.deferred none)) :=
            hR.turn (b' := .dead) hd rfl hb rfl rfl hp (fun k hk => World.putObj_heap_other hk) (by simp) rfl rfl rfl trivial
          exact ih hR' h (by simpa using hl) (fun i d' p' h1 h2 => hE (i + 1) d' p' (by simpa using h1) (by simpa using h2)) hK
      · cases h

def resOne (tm : Array Value) : ResultVar → Sem Value
  | .tmp t => pure (tm.getD t undef)
  | .cell a t => do loadVar t (← asAddr (tm.getD a undef))
theorem results_eq (fn : Func) (tm : Array Value) : results fn tm = (do
    let vs ← fn.results.mapM (resOne tm)
    pure (if h : vs.size = 1 then vs[0] else .tuple vs) : Sem Value) := rfl

theorem resV_ok {V : Env} {s : S} {B w : World} (hG : GOk P g V.σ) (hR : Rel P V s B w) {a : A} {A : Act} (hA : ARel V a A) : ∀ {rs : List ResultVar} {vs : List AV}, resV g a s rs = some vs →
    ∃ xs, concL V vs = some xs ∧ (rs.mapM (resOne A.tmps)).run P w = .ok xs w := by
  intro rs
  induction rs with
  | nil => intro vs h; simp [resV] at h; subst h; exact ⟨[], rfl, rfl⟩
  | cons r rs ih =>
    intro vs h
    cases r with
    | tmp t =>
      simp only [resV] at h
      split at h
      · rename_i l hl; cases h
        obtain ⟨xs, h1, h2⟩ := ih hl
        refine ⟨_, concL_mk (hA.get t) h1, ?_⟩
        have e1 : (resOne A.tmps (.tmp t)).run P w = .ok (A.tmps.getD t undef) w := rfl
        rw [List.mapM_cons, Sem.run_bind, e1, Result.andThen_ok, Sem.run_bind, h2]
        rfl
      · cases h
    | cell x t =>
      simp only [resV] at h
      split at h
      · rename_i id off hx
        split at h
        · rename_i v l hv hl; cases h
          obtain ⟨xs, h1, h2⟩ := ih hl
          have hc := hA.get x
          rw [hx] at hc
          obtain ⟨p, hp, e⟩ := conc_ptr hc
          have e' : A.tmps.getD x undef = .pointer (some ⟨p.1, off, none⟩) := e
          obtain ⟨X, k1, k2⟩ := run_loadT hG hR hv hp
          refine ⟨_, concL_mk k1 h1, ?_⟩
          have e1 : (resOne A.tmps (.cell x t)).run P w = .ok X w := by
            show (do loadVar t (← asAddr (A.tmps.getD x undef)) : Sem Value).run P w = .ok X w
            rw [e']; exact k2
          rw [List.mapM_cons, Sem.run_bind, e1, Result.andThen_ok, Sem.run_bind, h2]
          rfl
        · cases h
      · cases h

theorem results_ok {V : Env} {s : S} {B w : World} (hG : GOk P g V.σ) (hR : Rel P V s B w) {a : A} {A : Act} (hA : ARel V a A) {fn : Func} {vs : List AV} (h : resV g a s fn.results.toList = some vs) :
    ∃ v, (match vs with | [v] => v | l => AV.tup l).conc V = some v ∧ (results fn A.tmps).run P w = .ok v w := by
  obtain ⟨xs, h1, h2⟩ := resV_ok hG hR hA h
  have hrun : (fn.results.mapM (resOne A.tmps)).run P w = .ok xs.toArray w := by
    rw [Array.mapM_eq_mapM_toList, ← bind_pure_comp, Sem.run_bind, h2]; rfl
  rw [results_eq, Sem.run_bind, hrun, Result.andThen_ok]
  have hl := concL_len h1
  split
  · rename_i v
    obtain ⟨x, r, rfl, hx, hr⟩ := concL_cons h1
    cases hr
    refine ⟨x, hx, ?_⟩
    simp
  · rename_i hne
    refine ⟨.tuple xs.toArray, tup_mk h1, ?_⟩
    have hn1 : ¬ (xs.toArray.size = 1) := by
      intro e
      have : vs.length = 1 := by rw [← hl]; simpa using e
      obtain ⟨v, rfl⟩ := List.length_eq_one_iff.1 this
      exact hne v rfl
    simp only [hn1, dite_false, Sem.run_pure]

theorem call_ok {ih : Ih} (hI : IhOk P g ih) {V : Env} {F : Fence} {n : Nat} {B w : World} {lv : Lv} {f : FuncId} {args : List AV} {xs : List Value} {v : AV} {s s' : S} (hG : GOk P g V.σ) (hF : FOk F) (hL : LvOk V lv) (hR : Rel P V s B w) (hx : concL V args = some xs)
    (h : step g ih (.call lv f args) s = .val v s') : CallsIn F n P f xs.toArray w (VPost P V B v s') := by
  simp only [step] at h
  split at h
  · cases h
  · rename_i fi hfi
    cases c : (Nat.ble (llen args) fi.ntmps && Nat.ble fi.ntmps 100000) with
    | false => rw [c] at h; cases h
    | true =>
      rw [c] at h; simp only [cond_true] at h
      rw [llen_eq] at c
      simp only [nble, Bool.and_eq_true, decide_eq_true_eq] at c
      obtain ⟨fn, hf, hb, hnt, hres⟩ := (hG.fn f fi hfi).fn
      have hFp : FOk F.plain := hF
      split at h
      · rename_i e a1 s1 hc
        have key : fi.code.wpIn F.plain n P (CPost P V B e a1 s1) { tmps := xs.toArray ++ Array.replicate (fn.ntmps - xs.toArray.size) undef, defers := [] } w :=
          hI.code (rd := none) hG hFp hL rfl hR (by rw [hnt]; exact enter_ok hx c.1 c.2) hc
        have goal : CallsIn F.plain n P f xs.toArray w (VPost P V B v s') := by
          refine callsIn_of_wp_marks hf hb (hF.1 f) (wpIn_mono key ?_)
          rintro ex A1 w1 ⟨rfl, V1, k1, k2, k3⟩
          have fin : ∀ s2 vs, takeMarks s1 a1.marks = some s2 → resV g a1 s2 fi.results = some vs → v = (match vs with | [v] => v | l => AV.tup l) → s' = s2 → LeavesInM F.plain n P fn A1.tmps (VPost P V B v s') A1.defers .returning w1 := by
            intro s2 vs ht hr hv hs
            obtain ⟨ps, m1, m2, m3⟩ := k3.marks
            rw [m3]
            refine takeMarks_ok k2 ht m1 m2 (fun w2 hR2 => ?_)
            obtain ⟨x, r1, r2⟩ := results_ok (k1.σ_eq hG) hR2 k3 (fn := fn) (by rw [hres]; exact hr)
            exact ⟨x, r2, V1, x, k1, by rw [hs]; exact hR2, by rw [hv]; exact r1, rfl⟩
          cases e with
          | normal =>
            simp only at h
            split at h
            · rename_i s2 ht
              split at h
              · rename_i v0 hr; cases h; exact fin _ _ ht hr rfl rfl
              · rename_i l hne hr; cases h
                refine fin _ _ ht hr ?_ rfl
                split
                · rename_i v0; exact (hne v0 rfl).elim
                · rfl
              · cases h
            · cases h
          | ret =>
            simp only at h
            split at h
            · rename_i s2 ht
              split at h
              · rename_i v0 hr; cases h; exact fin _ _ ht hr rfl rfl
              · rename_i l hne hr; cases h
                refine fin _ _ ht hr ?_ rfl
                split
                · rename_i v0; exact (hne v0 rfl).elim
                · rfl
              · cases h
            · cases h
          | exit id => cases h
          | goto l => cases h
        exact goal
      · cases h
      · cases h

theorem yield_ok {ih : Ih} (hI : IhOk P g ih) {V : Env} {F : Fence} {n : Nat} {B w : World} {lv : Lv} {l : Nat} {p : Nat × Nat} {args : List AV} {xs : List Value} {v : AV} {s s' : S} (hG : GOk P g V.σ) (hF : FOk F) (hL : LvOk V lv) (hR : Rel P V s B w) (hp : V.E l = some p) (hx : concL V args = some xs)
    (h : step g ih (.yield lv l args) s = .val v s') : ∃ fn tmps assign body, (Instr.yield p.1 xs.toArray).run P w = .ok (.round p.1 fn tmps assign body) w ∧ RoundIn F n P p.1 fn tmps assign body w (VPost P V B v s') := by
  simp only [step] at h
  split at h
  · rename_i lc pe0 t nn d hlc hb
    obtain ⟨fn, lc', pd, tm, q1, q2, q3, q4⟩ := loop_at hR hb hp
    have : lc = lc' := by have := hL l lc hlc; rw [this] at q1; exact Option.some.inj q1
    subst this
    split at h
    · cases h
    · rename_i t' hset
      obtain ⟨s1, s2⟩ := setTmps_ok hset hx q3
      have hy := run_yield (P := P) (args := xs.toArray) q4 (by simpa using s1.symm)
      refine ⟨_, _, _, _, hy, ?_⟩
      have hFr : FOk (F.inRound p.1) := hF
      have hA0 : ARel V { tmps := t', n := nn, marks := [] } { tmps := (lc.params.zip xs.toArray).foldl (fun tmps (t, a) => tmps.setIfInBounds t a) tm, defers := [] } := by
        refine ⟨?_, [], rfl, fun i d p h => by simp at h, rfl⟩
        have e : (lc.params.zip xs.toArray).foldl (fun tmps (t, a) => tmps.setIfInBounds t a) tm = (lc.params.toList.zip xs).foldl (fun tmps (x : Tmp × Value) => tmps.setIfInBounds x.1 x.2) tm := by
          rw [← Array.foldl_toList]; simp
        rw [e]; exact s2
      split at h
      · rename_i a1 s1' hc1
        refine roundIn_of_wpIn (hF.1 fn) ?_
        have k1 := hI.code (F := F.inRound p.1) (n := n) hG hFr hL (rd := some l) ⟨p, hp, rfl⟩ hR hA0 hc1
        refine wpIn_mono k1 ?_
        rintro ex A1 w1 ⟨rfl, V1, m1, m2, m3⟩
        show ∃ w₂, _ ∧ _
        split at h
        · rename_i pe1 t1 n1 d1 hb1
          cases cl : Nat.blt l big with
          | false => rw [cl] at h; cases h
          | true =>
            rw [cl] at h; simp only [cond_true] at h
            have hl : l < big := by simpa using cl
            have hp1 := m1.E _ _ hp
            obtain ⟨fn1, lc1, pd1, tm1, r1, r2, r3, r4⟩ := loop_at m2 hb1 hp1
            have hbr := run_beginRound (P := P) r4 rfl
            have hR2 := turn_loop (st' := .busy) (pe' := pe1) m2 hl hb1 hp1 r4
            refine ⟨_, hbr, ?_⟩
            split at h
            · rename_i e3 a3 s3 hc3
              have k3 := hI.code (F := F.inRound p.1) (n := n) (m1.σ_eq hG) hFr (hL.mono m1) (rd := some l) ⟨p, hp1, rfl⟩ hR2 m3 hc3
              refine wpIn_mono k3 ?_
              rintro ex3 A3 w3 ⟨rfl, V3, u1, u2, u3⟩
              have hp3 := u1.E _ _ hp1
              have fin : ∀ (e : Ex) (t3 : Tr AV) (n3 d3 : Nat) (st3 : LoopState) (pe3 : Ex), s3.heap.get l = some (.loop st3 pe3 t3 n3 d3) →
                  v = .bool (jumpOf e).isNone → s' = { s3 with heap := Tr.set 64 s3.heap l (.loop (if (jumpOf e).isNone then .ready else .done) e t3 n3 d3) } →
                  ∃ x w', (Instr.endRound p.1 (jumpOf e)).run P w3 = .ok x w' ∧ VPost P V B v s' (.returned x) w' := by
                intro e t3 n3 d3 st3 pe3 hb3 hv hs
                obtain ⟨fn3, lc3, pd3, tm3, y1, y2, y3, y4⟩ := loop_at u2 hb3 hp3
                have hen := run_endRound (P := P) (jumpOf e) y4
                refine ⟨_, _, hen, V3, _, m1.trans u1, ?_, ?_, rfl⟩
                · rw [hs]
                  exact turn_loop (st' := if (jumpOf e).isNone then .ready else .done) (pe' := e) u2 hl hb3 hp3 y4
                · rw [hv]; rfl
              split at h
              · rename_i st3 pe3 t3 n3 d3 hb3
                split at h
                · cases h; exact fin .normal t3 n3 d3 st3 pe3 hb3 rfl rfl
                · rename_i hne
                  cases h
                  cases e3 with
                  | normal => exact (hne rfl).elim
                  | ret => exact fin .ret t3 n3 d3 st3 pe3 hb3 rfl rfl
                  | exit id => exact fin (.exit id) t3 n3 d3 st3 pe3 hb3 rfl rfl
                  | goto id => exact fin (.goto id) t3 n3 d3 st3 pe3 hb3 rfl rfl
              · cases h
            · cases h
            · cases h
        · cases h
      · cases h
      · cases h
  · cases h
end
end Go.Proofs.YtfpfagmmdiohbaaGreatDoor.Ev
