/-
  Trees are sound (7): frames, marks, results, rounds; Trees are sound (8): code; the whole; Contracts of functions, by their trees; Contracts of functions that read laid variables.
-/
import Derived.Test.YtjabmipkllkfbaaGreatDoorYE
import Derived.LoopNIn
import Derived.RangeFuncRecord
set_option linter.unusedVariables false
set_option linter.unusedSimpArgs false
namespace Go.Proofs.YtjabmipkllkfbaaGreatDoor.Vc
open Go.RowKit
section
variable {P : Program} {g : G}
theorem loop_at {V : Env} {s : S} {B w : World} (hR : Rel P V s B w) {l : Nat} {st : LoopState} {pe : Ex} {t : Tr AV} {n d : Nat} {p : Nat × Nat} (hb : s.heap.get l = some (.loop st pe t n d)) (hp : V.E l = some p) :
  ∃ fn lc pd tm, V.L l = some lc ∧ V.E d = some pd ∧ TmOk V t n tm ∧ w.heap[p.1]? = some (.loop { state := st, pending := jumpOf pe, fn := fn, tmps := tm, params := lc.params, assign := lc.assign, body := lc.body, defers := pd.1 }) := by
 obtain ⟨q, hq, hB, _⟩ := hR.blk l _ hb
 rw [hp] at hq; cases hq
 exact hB
theorem turn_loop {V : Env} {s : S} {B w : World} (hR : Rel P V s B w) {l : Nat} {st st' : LoopState} {pe pe' : Ex} {t : Tr AV} {n d : Nat} {p : Nat × Nat} (hl : l < big) (hb : s.heap.get l = some (.loop st pe t n d)) (hp : V.E l = some p) {r : Loop} (hr : w.heap[p.1]? = some (.loop r)) :
  Rel P V { s with heap := Tr.set 64 s.heap l (.loop st' pe' t n d) } B (w.putObj p.1 (.loop { r with state := st', pending := jumpOf pe' })) := by
 obtain ⟨fn, lc, pd, tm, h1, h2, h3, h4⟩ := loop_at hR hb hp
 rw [hr] at h4; cases h4
 have hlt : p.1 < w.heap.size := (Array.getElem?_eq_some_iff.1 hr).1
 refine hR.turn (b' := .loop st' pe' t n d) hl rfl hb rfl rfl hp (fun k hk => World.putObj_heap_other hk) (by simp) rfl rfl rfl ?_
 exact ⟨fn, lc, pd, tm, h1, h2, h3, World.putObj_heap_same hlt⟩
theorem setTmps_ok {V : Env} : ∀ {ps : List Tmp} {vs : List AV} {xs : List Value} {t t' : Tr AV} {n : Nat} {tm : Array Value}, setTmps t n ps vs = some t' → concL V vs = some xs → TmOk V t n tm →
  ps.length = xs.length ∧ TmOk V t' n ((ps.zip xs).foldl (fun tmps (x : Tmp × Value) => tmps.setIfInBounds x.1 x.2) tm) := by
 intro ps
 induction ps with
 | nil =>
  intro vs xs t t' n tm h hc ht
  cases vs with
  | nil => simp [setTmps] at h; subst h; cases hc; exact ⟨rfl, ht⟩
  | cons v vs => simp [setTmps] at h
 | cons p ps ih =>
  intro vs xs t t' n tm h hc ht
  cases vs with
  | nil => simp [setTmps] at h
  | cons v vs =>
   obtain ⟨x, r, rfl, hx, hr⟩ := concL_cons hc
   simp only [setTmps] at h
   cases c : (Nat.blt p n && Nat.blt p big) with
   | false => rw [c] at h; cases h
   | true =>
    rw [c] at h; simp only [cond_true] at h
    simp only [nblt, Bool.and_eq_true, decide_eq_true_eq] at c
    have ht' : TmOk V (Tr.set 64 t p v) n (tm.setIfInBounds p x) := by
     refine ⟨by simp [ht.1], fun k u hu => ?_⟩
     rw [Tr.get_set64 _ _ _ _ c.2] at hu
     by_cases hk : k = p
     ·subst hk
      simp only [if_true, Option.some.injEq] at hu
      subst hu
      have : (tm.setIfInBounds k x).getD k undef = x := by simp [ht.1, c.1]
      rw [this]; exact hx
     ·rw [if_neg hk] at hu
      have : (tm.setIfInBounds p x).getD k undef = tm.getD k undef := by
       simp [Array.getElem?_setIfInBounds_ne (fun e => hk e.symm)]
      rw [this]; exact ht.2 k u hu
    obtain ⟨h1, h2⟩ := ih h hr ht'
    exact ⟨by simp [h1], h2⟩
theorem ofArgs_get : ∀ (vs : List AV) (i : Nat) (t : Tr AV) (k : Nat), i + vs.length < big → (ofArgs i t vs).get k = if i ≤ k ∧ k < i + vs.length then vs[k - i]? else t.get k := by
 intro vs
 induction vs with
 | nil => intro i t k _; simp [ofArgs]; omega
 | cons v vs ih =>
  intro i t k h
  simp only [List.length_cons] at h
  simp only [ofArgs]
  rw [ih (Nat.succ i) _ k (by omega), Tr.get_set64 _ _ _ _ (by omega)]
  simp only [List.length_cons]
  by_cases h1 : k = i
  ·subst h1
   rw [if_neg (by omega), if_pos rfl, if_pos (by omega)]; simp
  ·by_cases h2 : Nat.succ i ≤ k ∧ k < Nat.succ i + vs.length
   ·rw [if_pos h2, if_pos (by omega)]
    obtain ⟨m, rfl⟩ : ∃ m, k = i + 1 + m := ⟨k - (i + 1), by omega⟩
    have e1 : i + 1 + m - Nat.succ i = m := by omega
    have e2 : i + 1 + m - i = m + 1 := by omega
    rw [e1, e2]; simp
   ·rw [if_neg h2, if_neg h1, if_neg (by omega)]
theorem enter_ok {V : Env} {args : List AV} {xs : List Value} {nt : Nat} (hc : concL V args = some xs) (h1 : args.length ≤ nt) (h2 : nt ≤ 100000) : ARel V { tmps := ofArgs 0 .e args, n := nt, marks := [] } { tmps := xs.toArray ++ Array.replicate (nt - xs.toArray.size) undef, defers := [] } := by
 have hl := concL_len hc
 refine ⟨⟨by simp; omega, fun k v hv => ?_⟩, [], rfl, fun i d p h => by simp at h, rfl⟩
 have hb : 0 + args.length < big := by unfold big; omega
 rw [ofArgs_get args 0 .e k hb] at hv
 by_cases hk : k < args.length
 ·rw [if_pos ⟨Nat.zero_le _, by omega⟩, Nat.sub_zero] at hv
  obtain ⟨x, e1, e2⟩ := concL_get hc hv
  have : (xs.toArray ++ Array.replicate (nt - xs.toArray.size) undef).getD k undef = x := by
   have hkx : k < xs.length := by omega
   simp [Array.getD_eq_getD_getElem?, Array.getElem?_append, hkx]
   have := (List.getElem?_eq_some_iff.1 e1).2
   exact this
  rw [this]; exact e2
 ·rw [if_neg (by omega)] at hv; cases hv
theorem takeMarks_ok {F : Fence} {n : Nat} {fn : Func} {tmps : Array Value} {R : Ending → World → Prop} : ∀ {ms : List Nat} {V : Env} {s s' : S} {B w : World} {ps : List (Nat × Nat)}, Rel P V s B w → takeMarks s ms = some s' → ps.length = ms.length → (∀ (i d : Nat) (p : Nat × Nat), ms[i]? = some d → ps[i]? = some p → V.E d = some p) →
  (∀ w', Rel P V s' B w' → LeavesIn F n P fn tmps R [] .returning w') → LeavesInM F n P fn tmps R (ps.map fun p => { target := .collected p.1, args := #[] }) .returning w := by
 intro ms
 induction ms with
 | nil =>
  intro V s s' B w ps hR h hl _ hK
  have : ps = [] := List.length_eq_zero_iff.1 hl
  subst this
  simp [takeMarks] at h; subst h
  exact hK w hR
 | cons d ms ih =>
  intro V s s' B w ps hR h hl hE hK
  cases ps with
  | nil => simp at hl
  | cons p ps =>
   have hp : V.E d = some p := hE 0 d p rfl rfl
   simp only [takeMarks] at h
   split at h
   ·rename_i hb
    cases c : Nat.blt d big with
    | false => rw [c] at h; cases h
    | true =>
     rw [c] at h; simp only [cond_true] at h
     have hd : d < big := by simpa using c
     obtain ⟨q, hq, hB, _⟩ := hR.blk d _ hb
     rw [hp] at hq; cases hq
     have hB' : w.heap[p.1]? = some (.deferred (some [])) := hB
     refine ⟨by simp, .inl ⟨p.1, _, rfl, run_takeDeferred hB', ?_⟩⟩
     have hR' : Rel P V { s with heap := Tr.set 64 s.heap d .dead } B (w.putObj p.1 (.deferred none)) :=
      hR.turn (b' := .dead) hd rfl hb rfl rfl hp (fun k hk => World.putObj_heap_other hk) (by simp) rfl rfl rfl trivial
     exact ih hR' h (by simpa using hl) (fun i d' p' h1 h2 => hE (i + 1) d' p' (by simpa using h1) (by simpa using h2)) hK
   ·cases h
def resOne (tm : Array Value) : ResultVar → Sem Value
 | .tmp t => pure (tm.getD t undef)
 | .cell a t => do loadVar t (← asAddr (tm.getD a undef))
theorem results_eq (fn : Func) (tm : Array Value) : results fn tm = (do
  let vs ← fn.results.mapM (resOne tm)
  pure (if h : vs.size = 1 then vs[0] else .tuple vs) : Sem Value) := rfl
theorem resV_ok {V : Env} {s : S} {B w : World} (hG : GOk P g) (hR : Rel P V s B w) {a : A} {A : Act} (hA : ARel V a A) : ∀ {rs : List ResultVar} {vs : List AV}, resV g a s rs = some vs →
  ∃ xs, concL V vs = some xs ∧ (rs.mapM (resOne A.tmps)).run P w = .ok xs w := by
 intro rs
 induction rs with
 | nil => intro vs h; simp [resV] at h; subst h; exact ⟨[], rfl, rfl⟩
 | cons r rs ih =>
  intro vs h
  cases r with
  | tmp t =>
   simp only [resV] at h
   split at h
   ·rename_i v l hv hl; cases h
    obtain ⟨xs, h1, h2⟩ := ih hl
    refine ⟨_, concL_mk (hA.get hv) h1, ?_⟩
    have e1 : (resOne A.tmps (.tmp t)).run P w = .ok (A.tmps.getD t undef) w := rfl
    rw [List.mapM_cons, Sem.run_bind, e1, Result.andThen_ok, Sem.run_bind, h2]
    rfl
   ·cases h
  | cell x t =>
   simp only [resV] at h
   split at h
   ·rename_i id off hx
    split at h
    ·rename_i v l hv hl; cases h
     obtain ⟨xs, h1, h2⟩ := ih hl
     have hc := hA.get hx
     obtain ⟨p, hp, e⟩ := conc_ptr hc
     have e' : A.tmps.getD x undef = .pointer (some ⟨p.1, off, none⟩) := e
     obtain ⟨X, k1, k2⟩ := run_loadT hG hR hv hp
     refine ⟨_, concL_mk k1 h1, ?_⟩
     have e1 : (resOne A.tmps (.cell x t)).run P w = .ok X w := by
      show (do loadVar t (← asAddr (A.tmps.getD x undef)) : Sem Value).run P w = .ok X w
      rw [e']; exact k2
     rw [List.mapM_cons, Sem.run_bind, e1, Result.andThen_ok, Sem.run_bind, h2]
     rfl
    ·cases h
   ·cases h
theorem results_ok {V : Env} {s : S} {B w : World} (hG : GOk P g) (hR : Rel P V s B w) {a : A} {A : Act} (hA : ARel V a A) {fn : Func} {vs : List AV} (h : resV g a s fn.results.toList = some vs) :
  ∃ v, (match vs with | [v] => v | l => AV.tup l).conc V = some v ∧ (results fn A.tmps).run P w = .ok v w := by
 obtain ⟨xs, h1, h2⟩ := resV_ok hG hR hA h
 have hrun : (fn.results.mapM (resOne A.tmps)).run P w = .ok xs.toArray w := by
  rw [Array.mapM_eq_mapM_toList, ← bind_pure_comp, Sem.run_bind, h2]; rfl
 rw [results_eq, Sem.run_bind, hrun, Result.andThen_ok]
 have hl := concL_len h1
 split
 ·rename_i v
  obtain ⟨x, r, rfl, hx, hr⟩ := concL_cons h1
  cases hr
  refine ⟨x, hx, ?_⟩
  simp
 ·rename_i hne
  refine ⟨.tuple xs.toArray, tup_mk h1, ?_⟩
  have hn1 : ¬ (xs.toArray.size = 1) := by
   intro e
   have : vs.length = 1 := by rw [← hl]; simpa using e
   obtain ⟨v, rfl⟩ := List.length_eq_one_iff.1 this
   exact hne v rfl
  simp only [hn1, dite_false, Sem.run_pure]
section
variable {SP : Nat → Option Sp} {ih : Ih} {m : Nat}
theorem exOf_calm (e : Ex) : ∀ ch, exOf e ≠ .panic ch := by intro ch; cases e <;> simp [exOf]
theorem code_calm (hI : IhOk P g SP ih m) {V : Env} {F : Fence} {n : Nat} {B w : World} {lv : Lv} {rd : Option Nat} {c : Code} {a : A} {A : Act} {s : S} {K : PE → Out → Prop} {Q : Exit → Act → World → Prop} (hF : FOk F) (hL : LvOk V lv) (hrd : RdOk V F rd) (hR : Rel P V s B w) (hA : ARel V a A)
  (h : Sat SP (ih (.code lv rd c a) s) V.toPE K) (hK : CodeK P V B K Q) : c.wpIn F n P Q A w :=
 wpIn_mono (Q := fun ex A w => (∀ ch, ex ≠ .panic ch) ∧ Q ex A w) (hI.code hF hL hrd hR hA h (fun pe o ho => by
  obtain ⟨e, a, s, h1, h2⟩ := hK pe o ho
  exact ⟨e, a, s, h1, fun V' A w x1 x2 x3 x4 => ⟨exOf_calm e, h2 V' A w x1 x2 x3 x4⟩⟩) (fun ch A w hp => hp.1 ch rfl)) (fun _ _ _ hq => hq.2)
theorem callT_ok (hI : IhOk P g SP ih m) (hG : GOk P g) {V : Env} {F : Fence} {n : Nat} {B w : World} {lv : Lv} {f : FuncId} {args : List AV} {xs : List Value} {s : S} {K : PE → Out → Prop} {R : Ending → World → Prop} (hF : FOk F) (hL : LvOk V lv) (hR : Rel P V s B w) (hx : concL V args = some xs)
  (h : Sat SP (callT g ih lv f args s) V.toPE K) (hK : ValK P V B K R) : CallsIn F n P f xs.toArray w R := by
 have hE : ∀ pe n, ¬ K pe (.err n) := fun pe n hk => by obtain ⟨_, _, e, _⟩ := hK _ _ hk; cases e
 unfold callT at h
 split at h
 ·exact (hE _ _ h).elim
 ·rename_i fi hfi
  cases c : (Nat.ble (llen args) fi.ntmps && Nat.ble fi.ntmps 100000) with
  | false => rw [c] at h; exact (hE _ _ h).elim
  | true =>
   rw [c] at h; simp only [cond_true] at h
   rw [llen_eq] at c
   simp only [nble, Bool.and_eq_true, decide_eq_true_eq] at c
   obtain ⟨fn, hf, hb, hnt, hres⟩ := (hG.fn f fi hfi).fn
   have hFp : FOk F.plain := hF
   suffices goal : CallsIn F.plain n P f xs.toArray w R from goal
   refine callsIn_of_wp_marks hf hb (hF.1 f) ?_
   refine code_calm hI (rd := none) hFp hL rfl hR (by rw [hnt]; exact enter_ok hx c.1 c.2) (Sat_bind _ _ _ _ h) (fun pe o ho => ?_)
   cases o with
   | val v s1 => exact (hE _ _ ho).elim
   | again vs => exact (hE _ _ ho).elim
   | err k => exact (hE _ _ ho).elim
   | code e a1 s1 =>
    simp only [Sat] at ho
    refine ⟨e, a1, s1, rfl, fun V1 A1 w1 k1 k2 k3 k4 => ?_⟩
    subst k2
    obtain ⟨ps, m1, m2, m3⟩ := k4.marks
    have fin : ∀ s2 vs v, takeMarks s1 a1.marks = some s2 → resV g a1 s2 fi.results = some vs → v = (match vs with | [v] => v | l => AV.tup l) → K V1.toPE (.val v s2) → LeavesInM F.plain n P fn A1.tmps R A1.defers .returning w1 := by
     intro s2 vs v ht hr hv hk
     rw [m3]
     refine takeMarks_ok k3 ht m1 m2 (fun w2 hR2 => ?_)
     obtain ⟨x, r1, r2⟩ := results_ok hG hR2 k4 (fn := fn) (by rw [hres]; exact hr)
     obtain ⟨v', s', e1, e2⟩ := hK _ _ hk
     cases e1
     exact ⟨x, r2, e2 V1 x w2 k1 rfl hR2 (by rw [hv]; exact r1)⟩
    cases e with
    | normal =>
     simp only [leaveT] at ho
     split at ho
     ·rename_i s2 ht
      split at ho
      ·rename_i v0 hr; exact fin _ _ _ ht hr rfl ho
      ·rename_i l hne hr
       refine fin _ _ _ ht hr ?_ ho
       split
       ·rename_i v0; exact (hne v0 rfl).elim
       ·rfl
      ·exact (hE _ _ ho).elim
     ·exact (hE _ _ ho).elim
    | ret =>
     simp only [leaveT] at ho
     split at ho
     ·rename_i s2 ht
      split at ho
      ·rename_i v0 hr; exact fin _ _ _ ht hr rfl ho
      ·rename_i l hne hr
       refine fin _ _ _ ht hr ?_ ho
       split
       ·rename_i v0; exact (hne v0 rfl).elim
       ·rfl
      ·exact (hE _ _ ho).elim
     ·exact (hE _ _ ho).elim
    | exit id => exact (hE _ _ ho).elim
    | goto l => exact (hE _ _ ho).elim
theorem yieldT_ok (hI : IhOk P g SP ih m) (hG : GOk P g) {V : Env} {F : Fence} {n : Nat} {B w : World} {lv : Lv} {l : Nat} {p : Nat × Nat} {args : List AV} {xs : List Value} {s : S} {K : PE → Out → Prop} {R : Ending → World → Prop} (hF : FOk F) (hL : LvOk V lv) (hR : Rel P V s B w) (hp : V.E l = some p) (hx : concL V args = some xs)
  (h : Sat SP (yieldT ih lv l args s) V.toPE K) (hK : ValK P V B K R) : ∃ fn tmps assign body, (Instr.yield p.1 xs.toArray).run P w = .ok (.round p.1 fn tmps assign body) w ∧ RoundIn F n P p.1 fn tmps assign body w R := by
 have hE : ∀ pe n, ¬ K pe (.err n) := fun pe n hk => by obtain ⟨_, _, e, _⟩ := hK _ _ hk; cases e
 unfold yieldT at h
 split at h
 ·rename_i lc pe0 t nn d hlc hb
  obtain ⟨fn, lc', pd, tm, q1, q2, q3, q4⟩ := loop_at hR hb hp
  have : lc = lc' := by have := hL l lc hlc; rw [this] at q1; exact Option.some.inj q1
  subst this
  split at h
  ·exact (hE _ _ h).elim
  ·rename_i t' hset
   obtain ⟨s1, s2⟩ := setTmps_ok hset hx q3
   have hy := run_yield (P := P) (args := xs.toArray) q4 (by simpa using s1.symm)
   refine ⟨_, _, _, _, hy, ?_⟩
   have hFr : FOk (F.inRound p.1) := hF
   have hA0 : ARel V { tmps := t', n := nn, marks := [] } { tmps := (lc.params.zip xs.toArray).foldl (fun tmps (t, a) => tmps.setIfInBounds t a) tm, defers := [] } := by
    refine ⟨?_, [], rfl, fun i d p h => by simp at h, rfl⟩
    have e : (lc.params.zip xs.toArray).foldl (fun tmps (t, a) => tmps.setIfInBounds t a) tm = (lc.params.toList.zip xs).foldl (fun tmps (x : Tmp × Value) => tmps.setIfInBounds x.1 x.2) tm := by
     rw [← Array.foldl_toList]; simp
    rw [e]; exact s2
   refine roundIn_of_wpIn (hF.1 fn) ?_
   refine code_calm hI (F := F.inRound p.1) (n := n) (rd := some l) hFr hL ⟨p, hp, rfl⟩ hR hA0 (Sat_bind _ _ _ _ h) (fun pe o ho => ?_)
   cases o with
   | val v s1 => exact (hE _ _ ho).elim
   | again vs => exact (hE _ _ ho).elim
   | err k => exact (hE _ _ ho).elim
   | code e a1 s1' =>
    cases e with
    | exit id => exact (hE _ _ ho).elim
    | goto l => exact (hE _ _ ho).elim
    | ret => exact (hE _ _ ho).elim
    | normal =>
     refine ⟨.normal, a1, s1', rfl, fun V1 A1 w1 m1 m2 m3 m4 => ?_⟩
     subst m2
     simp only at ho
     show ∃ w₂, _ ∧ _
     split at ho
     ·rename_i pe1 t1 n1 d1 hb1
      cases cl : Nat.blt l big with
      | false => rw [cl] at ho; exact (hE _ _ ho).elim
      | true =>
       rw [cl] at ho; simp only [cond_true] at ho
       have hl : l < big := by simpa using cl
       have hp1 := m1.E _ _ hp
       obtain ⟨fn1, lc1, pd1, tm1, r1, r2, r3, r4⟩ := loop_at m3 hb1 hp1
       have hbr := run_beginRound (P := P) r4 rfl
       have hR2 := turn_loop (st' := .busy) (pe' := pe1) m3 hl hb1 hp1 r4
       refine ⟨_, hbr, ?_⟩
       refine code_calm hI (F := F.inRound p.1) (n := n) (rd := some l) hFr (hL.mono m1) ⟨p, hp1, rfl⟩ hR2 m4 (Sat_bind _ _ _ _ ho) (fun pe3 o3 ho3 => ?_)
       cases o3 with
       | val v s1 => exact (hE _ _ ho3).elim
       | again vs => exact (hE _ _ ho3).elim
       | err k => exact (hE _ _ ho3).elim
       | code e3 a3 s3 =>
        refine ⟨e3, a3, s3, rfl, fun V3 A3 w3 u1 u2 u3 u4 => ?_⟩
        subst u2
        have hp3 := u1.E _ _ hp1
        simp only [Sat] at ho3
        have fin : ∀ (e : Ex) (t3 : Tr AV) (n3 d3 : Nat) (st3 : LoopState) (pe3 : Ex), s3.heap.get l = some (.loop st3 pe3 t3 n3 d3) →
          K V3.toPE (.val (.bool (jumpOf e).isNone) { s3 with heap := Tr.set 64 s3.heap l (.loop (if (jumpOf e).isNone then .ready else .done) e t3 n3 d3) }) →
          ∃ x w', (Instr.endRound p.1 (jumpOf e)).run P w3 = .ok x w' ∧ R (.returned x) w' := by
         intro e t3 n3 d3 st3 pe3 hb3 hk
         obtain ⟨fn3, lc3, pd3, tm3, y1, y2, y3, y4⟩ := loop_at u3 hb3 hp3
         have hen := run_endRound (P := P) (jumpOf e) y4
         obtain ⟨v', s', e1, e2⟩ := hK _ _ hk
         cases e1
         exact ⟨_, _, hen, e2 V3 _ _ (m1.trans u1) rfl (turn_loop (st' := if (jumpOf e).isNone then .ready else .done) (pe' := e) u3 hl hb3 hp3 y4) rfl⟩
        unfold endRound at ho3
        split at ho3
        ·rename_i st3 pe3 t3 n3 d3 hb3
         cases e3 with
         | normal => exact fin .normal t3 n3 d3 st3 pe3 hb3 ho3
         | ret => exact fin .ret t3 n3 d3 st3 pe3 hb3 ho3
         | exit id => exact fin (.exit id) t3 n3 d3 st3 pe3 hb3 ho3
         | goto id => exact fin (.goto id) t3 n3 d3 st3 pe3 hb3 ho3
        ·exact (hE _ _ ho3).elim
     ·exact (hE _ _ ho).elim
 ·exact (hE _ _ h).elim
end
end
end Go.Proofs.YtjabmipkllkfbaaGreatDoor.Vc
namespace Go.Proofs.YtjabmipkllkfbaaGreatDoor.Vc
open Go.RowKit
section
variable {P : Program} {g : G} {SP : Nat → Option Sp} {ih : Ih} {m : Nat}
theorem enter_outer {V : Env} {s s1 s2 : S} {B w : World} (hR : Rel P V s B w) {d l : Nat} {t : Tr AV} {n : Nat} {tm : Array Value} (ht : TmOk V t n tm) {ps : Array Tmp} {x y : Code} (fn : FuncId) (h1 : newB s .defd = some (d, s1)) (h2 : newB s1 (.loop .ready .normal t n d) = some (l, s2)) :
  ∃ V2, ExtE V V2 ∧ V2.E d = some (w.heap.size, 0) ∧ V2.E l = some (w.heap.size + 1, 0) ∧ V2.L l = some ⟨ps, x, y⟩ ∧
   Rel P V2 s2 B ((w.alloc (.deferred (some []))).alloc (.loop { state := .ready, pending := none, fn := fn, tmps := tm, params := ps, assign := x, body := y, defers := w.heap.size })) := by
 obtain ⟨a1, a2, a3⟩ := hR.new (cap := 0) (lc := none) (o := .deferred (some [])) h1 rfl (.inl rfl) rfl
 have hsz : (w.alloc (.deferred (some []))).heap.size = w.heap.size + 1 := size_alloc _ _
 have hx := a1.ext (newB_some h2).2.2.1 ((w.alloc (.deferred (some []))).heap.size, 0) (some ⟨ps, x, y⟩)
 obtain ⟨b1, b2, b3⟩ := a1.new (cap := 0) (lc := some ⟨ps, x, y⟩) (o := .loop { state := .ready, pending := none, fn := fn, tmps := tm, params := ps, assign := x, body := y, defers := w.heap.size }) h2 rfl (.inr ⟨_, _, _, _, _, rfl⟩)
  ⟨fn, ⟨ps, x, y⟩, (w.heap.size, 0), tm, by show (if l = l then orL (some ⟨ps, x, y⟩) _ else _) = _; simp [orL], hx.E _ _ a3, TmOk_mono (a2.ext.trans hx) ht, rfl⟩
 refine ⟨_, a2.trans b2, b2.ext.E _ _ a3, by rw [b3, hsz], ?_, b1⟩
 show (if l = l then orL (some ⟨ps, x, y⟩) _ else _) = _
 simp [orL]
theorem enter_inner {V : Env} {s s2 : S} {B w : World} (hR : Rel P V s B w) {d l : Nat} {t : Tr AV} {n : Nat} {tm : Array Value} {pd : Nat × Nat} (ht : TmOk V t n tm) (hd : V.E d = some pd) {ps : Array Tmp} {x y : Code} (fn : FuncId) (h2 : newB s (.loop .ready .normal t n d) = some (l, s2)) :
  ∃ V2, ExtE V V2 ∧ V2.E l = some (w.heap.size, 0) ∧ V2.L l = some ⟨ps, x, y⟩ ∧
   Rel P V2 s2 B (w.alloc (.loop { state := .ready, pending := none, fn := fn, tmps := tm, params := ps, assign := x, body := y, defers := pd.1 })) := by
 have hx := hR.ext (newB_some h2).2.2.1 (w.heap.size, 0) (some ⟨ps, x, y⟩)
 obtain ⟨b1, b2, b3⟩ := hR.new (cap := 0) (lc := some ⟨ps, x, y⟩) (o := .loop { state := .ready, pending := none, fn := fn, tmps := tm, params := ps, assign := x, body := y, defers := pd.1 }) h2 rfl (.inr ⟨_, _, _, _, _, rfl⟩)
  ⟨fn, ⟨ps, x, y⟩, pd, tm, by show (if l = l then orL (some ⟨ps, x, y⟩) _ else _) = _; simp [orL], hx.E _ _ hd, TmOk_mono hx ht, rfl⟩
 refine ⟨_, b2, b3, ?_, b1⟩
 show (if l = l then orL (some ⟨ps, x, y⟩) _ else _) = _
 simp [orL]
theorem run_enterLoop_inner {w : World} {l0 : Nat} {r : Loop} (h : w.heap[l0]? = some (.loop r)) (fn : FuncId) (tmps : Array Value) (ps : Array Tmp) (assign body : Code) :
  (Instr.enterLoop fn tmps ps assign body (some l0)).run P w = .ok (w.heap.size, []) (w.alloc (.loop { state := .ready, pending := none, fn, tmps, params := ps, assign, body, defers := r.defers })) := by
 unfold Instr.enterLoop
 simp only [Sem.run_bind, run_getLoop h, Result.andThen_ok, Sem.run_pure, run_newObj_alloc]
theorem lv_cons {V : Env} {lv : Lv} {l : Nat} {c : LC} (h : LvOk V lv) (hl : V.L l = some c) : LvOk V ((l, c) :: lv) := by
 intro i c' hi
 simp only [lvGet] at hi
 cases hb : Nat.beq l i with
 | true =>
      rw [hb] at hi; simp only [cond_true] at hi; cases hi; have : l = i := by simpa using hb
      rw [← this]; exact hl
 | false => rw [hb] at hi; exact h i c' hi
theorem range_end (hI : IhOk P g SP ih m) {V3 : Env} {F : Fence} {n : Nat} {B w3 : World} {lv : Lv} {rd : Option Nat} {a : A} {A : Act} {s3 : S} {l : Nat} {q : Nat × Nat} {mark : List Nat} {marks : List Deferred} {K : PE → Out → Prop} {Q : Exit → Act → World → Prop}
  (hF : FOk F) (hL : LvOk V3 lv) (hrd : RdOk V3 F rd) (hR : Rel P V3 s3 B w3) (hp : V3.E l = some q) (hK : CodeK P V3 B K Q) (hQ : ∀ ch A w, ¬ Q (.panic ch) A w)
  (hA : ARel V3 { a with marks := mark ++ a.marks } { A with defers := marks ++ A.defers }) (h : Sat SP (afterRange ih lv rd l mark a s3) V3.toPE K) :
  ∃ jump w4, (Instr.endLoop q.1).run P w3 = .ok jump w4 ∧ (match jump with
    | none => Q .normal { A with defers := marks ++ A.defers } w4
    | some c => c.wpIn F n P Q { A with defers := marks ++ A.defers } w4) := by
 have hE : ∀ pe n, ¬ K pe (.err n) := fun pe n hk => by obtain ⟨_, _, _, e, _⟩ := hK _ _ hk; cases e
 unfold afterRange at h
 split at h
 ·rename_i st pe t nn d hb
  have key : st ≠ .busy → ∃ jump w4, (Instr.endLoop q.1).run P w3 = .ok jump w4 ∧ (match jump with
       | none => Q .normal { A with defers := marks ++ A.defers } w4
       | some c => c.wpIn F n P Q { A with defers := marks ++ A.defers } w4) := by
   intro hst
   split at h
   ·exact (hE _ _ h).elim
   ·cases cl : Nat.blt l big with
    | false => rw [cl] at h; exact (hE _ _ h).elim
    | true =>
     rw [cl] at h; simp only [cond_true] at h
     have hl : l < big := by simpa using cl
     obtain ⟨fn, lc, pd, tm, h1, h2, h3, h4⟩ := loop_at hR hb hp
     have hrun := run_endLoop (P := P) h4 hst
     have hR4 := turn_loop (st' := .exhausted) (pe' := pe) hR hl hb hp h4
     refine ⟨jumpOf pe, _, hrun, ?_⟩
     cases hj : jumpOf pe with
     | none =>
      rw [hj] at h
      obtain ⟨e, a', s', e1, e2⟩ := hK _ _ h
      cases e1
      refine e2 V3 _ _ (Ext.refl V3) rfl ?_ hA
      rw [← hj]; exact hR4
     | some c =>
      rw [hj] at h
      refine hI.code hF hL hrd ?_ hA h hK hQ
      rw [← hj]; exact hR4
  by_cases hst : st = .busy
  ·subst hst; exact (hE _ _ h).elim
  ·exact key hst
 ·exact (hE _ _ h).elim
theorem rangeT_ok (hI : IhOk P g SP ih m) (hG : GOk P g) {V : Env} {F : Fence} {n : Nat} {B w : World} {lv : Lv} {rd : Option Nat} {f : Operand} {params : Array Tmp} {assign body : Code} {a : A} {A : Act} {s : S} {K : PE → Out → Prop} {Q : Exit → Act → World → Prop}
  (hF : FOk F) (hL : LvOk V lv) (hrd : RdOk V F rd) (hR : Rel P V s B w) (hA : ARel V a A) (h : Sat SP (rangeT ih lv rd g f params assign body a s) V.toPE K) (hK : CodeK P V B K Q) (hQ : ∀ ch A w, ¬ Q (.panic ch) A w) :
  (Code.rangeFunc f params assign body).wpIn F n P Q A w := by
 have hE : ∀ pe n, ¬ K pe (.err n) := fun pe n hk => by obtain ⟨_, _, _, e, _⟩ := hK _ _ hk; cases e
 unfold rangeT at h
 split at h
 ·rename_i kf first captured hf
  split at h
  ·exact (hE _ _ h).elim
  ·rename_i fi hfi
   obtain ⟨fs, cs, f1, f2, f3⟩ := conc_func (evO_ok hA hR.globOk hf)
   refine wpIn_rangeFunc (fun fn _ => ?_)
   have rest : ∀ (V2 : Env) (s2 : S) (l : Nat) (q : Nat × Nat) (w2 : World) (mark : List Nat) (marks : List Deferred), ExtE V V2 → Rel P V2 s2 B w2 → V2.E l = some q → V2.L l = some ⟨params, assign, body⟩ →
     ARel V2 { a with marks := mark ++ a.marks } { A with defers := marks ++ A.defers } → Sat SP ((ih (.call ((l, ⟨params, assign, body⟩) :: lv) kf ((first ++ [.yield l]) ++ captured)) s2).bind fun r => match r with
       | .val _ s => afterRange ih lv rd l mark a s
       | .err n => .out (.err n)
       | _ => .out (.err 76)) V2.toPE K →
     ∃ (d : Deferred) (w₁' : World) (f' : FuncId) (args : Array Value) (w₂ : World), (resolve A.eval (rangeCall f q.1) 0).run P w2 = .ok d w₁' ∧ (∀ f', Target.leads P w₁' d.target d.args = some f' → F.fn f') ∧ (invoke d.target d.args).run P w₁' = .ok (.enter f' args) w₂ ∧
      (F.depth.isSome = true → 1 ≤ n) ∧ CallsIn F (n - 1) P f' args w₂ (rangePost F n P q.1 Q { A with defers := marks ++ A.defers }) := by
    intro V2 s2 l q w2 mark marks x1 x2 x3 x4 x5 hs
    have hargs : concL V2 ((first ++ [.yield l]) ++ captured) = some ((fs ++ [Value.func (.yield q.1) #[] #[]]) ++ cs) :=
     concL_app (concL_app (concL_mono x1.ext f1) (concL_mk (by simp only [AV.conc, x3]) (concL_nil V2))) (concL_mono x1.ext f2)
    refine ⟨{ target := .fn (.func kf) cs.toArray, args := fs.toArray ++ #[.func (.yield q.1) #[] #[]] }, w2, kf, ((fs ++ [Value.func (.yield q.1) #[] #[]]) ++ cs).toArray, w2, ?_, fun f' _ => hF.1 f', ?_, depth_ok hF, ?_⟩
    ·simp only [resolve, f3]
     simp [go_sem]
    ·have := (hG.fn kf fi hfi).call ((fs ++ [Value.func (.yield q.1) #[] #[]]) ++ cs).toArray w2
     rw [← this]
     simp only [invoke]
     congr 2
     apply Array.ext'; simp
    ·refine hI.call (F := F) (n := n - 1) hF (lv_cons (hL.mono x1.ext) x4) x2 hargs (Sat_bind _ _ _ _ hs) (fun pe o ho => ?_)
     cases o with
     | code e a s => exact (hE _ _ ho).elim
     | again vs => exact (hE _ _ ho).elim
     | err k => exact (hE _ _ ho).elim
     | val v s3 =>
      refine ⟨v, s3, rfl, fun V3 x w3 z1 z2 z3 z4 => ?_⟩
      subst z2
      have hx3 := x1.ext.trans z1
      exact range_end hI hF (hL.mono hx3) (hrd.mono hx3) z3 (z1.E _ _ x3) (hK.mono hx3) hQ (x5.mono z1) ho
   cases rd with
   | none =>
    have hro : F.round = none := hrd
    rw [hro]
    simp only at h
    cases hd : newB s .defd with
    | none => rw [hd] at h; exact (hE _ _ h).elim
    | some ds =>
     obtain ⟨d, s1⟩ := ds
     rw [hd] at h; simp only at h
     cases hl : newB s1 (.loop .ready .normal a.tmps a.n d) with
     | none => rw [hl] at h; exact (hE _ _ h).elim
     | some ls =>
      obtain ⟨l, s2⟩ := ls
      rw [hl] at h; simp only at h
      obtain ⟨V2, e1, e2, e3, e4, e5⟩ := enter_outer hR hA.tm (ps := params) (x := assign) (y := body) fn hd hl
      obtain ⟨ps, m1, m2, m3⟩ := hA.marks
      obtain ⟨dd, w₁', f', args, w₂, q1, q2, q3, q4, q5⟩ := rest V2 s2 l (w.heap.size + 1, 0) _ [d] [{ target := .collected w.heap.size, args := #[] }] e1 e5 e3 e4
       ⟨TmOk_mono e1.ext hA.tm, (w.heap.size, 0) :: ps, by simp [m1], fun i d' p' hh1 hh2 => by
        cases i with
        | zero => simp at hh1 hh2; rw [← hh1, ← hh2]; exact e2
        | succ i => simp at hh1 hh2; exact e1.ext.E _ _ (m2 i d' p' hh1 hh2), by simp [m3]⟩ (by rw [e1.pe]; exact h)
      exact ⟨_, _, _, dd, w₁', f', args, w₂, run_enterLoop_outer _ _ _ _ _, q1, q2, q3, q4, q5⟩
   | some l0 =>
    obtain ⟨p0, hp0, hro⟩ := hrd
    rw [hro]
    simp only at h
    split at h
    ·exact (hE _ _ h).elim
    ·rename_i d mark s1 hx0
     split at hx0
     ·rename_i st0 pe0 t0 n0 d0 hb0
      cases hx0
      obtain ⟨fn0, lc0, pd0, tm0, g1, g2, g3, g4⟩ := loop_at hR hb0 hp0
      cases hl : newB s (.loop .ready .normal a.tmps a.n d) with
      | none => rw [hl] at h; exact (hE _ _ h).elim
      | some ls =>
       obtain ⟨l, s2⟩ := ls
       rw [hl] at h; simp only at h
       obtain ⟨V2, e1, e3, e4, e5⟩ := enter_inner hR hA.tm g2 (ps := params) (x := assign) (y := body) fn hl
       obtain ⟨dd, w₁', f', args, w₂, q1, q2, q3, q4, q5⟩ := rest V2 s2 l (w.heap.size, 0) _ [] [] e1 e5 e3 e4 (hA.mono e1.ext) (by rw [e1.pe]; exact h)
       exact ⟨_, _, _, dd, w₁', f', args, w₂, run_enterLoop_inner g4 _ _ _ _ _, q1, q2, q3, q4, q5⟩
     ·cases hx0
 ·exact (hE _ _ h).elim
theorem codeT_ok (hI : IhOk P g SP ih m) (hS : SpsOk P g SP) (hG : GOk P g) {V : Env} {F : Fence} {n : Nat} {B w : World} {lv : Lv} {rd : Option Nat} {c : Code} {a : A} {A : Act} {s : S} {K : PE → Out → Prop} {Q : Exit → Act → World → Prop}
  (hF : FOk F) (hL : LvOk V lv) (hrd : RdOk V F rd) (hR : Rel P V s B w) (hA : ARel V a A) (h : Sat SP (codeT g ih lv rd c a s) V.toPE K) (hK : CodeK P V B K Q) (hQ : ∀ ch A w, ¬ Q (.panic ch) A w) : c.wpIn F n P Q A w := by
 have hE : ∀ pe n, ¬ K pe (.err n) := fun pe n hk => by obtain ⟨_, _, _, e, _⟩ := hK _ _ hk; cases e
 have fin : ∀ {e : Ex} {a' : Vc.A} {s' : S}, K V.toPE (.code e a' s') → Rel P V s' B w → ARel V a' A → Q (exOf e) A w := by
  intro e a' s' hk r ar
  obtain ⟨e', a2, s2, e1, e2⟩ := hK _ _ hk
  cases e1
  exact e2 V A w (Ext.refl V) rfl r ar
 have norm : ∀ (a' : Vc.A) (s' : S) (V' : Env) (A' : Act) (w' : World), Ext V V' → Rel P V' s' B w' → ARel V' a' A' → K V'.toPE (.code .normal a' s') → Q .normal A' w' := by
  intro a' s' V' A' w' x r ar hk
  obtain ⟨e', a2, s2, e1, e2⟩ := hK _ _ hk
  cases e1
  exact e2 V' A' w' x rfl r ar
 cases c with
 | skip => exact wpIn_skip (fin h hR hA)
 | label l => exact wpIn_label (fin h hR hA)
 | exit id => exact wpIn_exit (fin (e := .exit id) h hR hA)
 | ret => exact wpIn_ret (fin (e := .ret) h hR hA)
 | scope b => exact (hE _ _ h).elim
 | goto l => exact (hE _ _ h).elim
 | refuse l => exact (hE _ _ h).elim
 | region id ops draw =>
  simp only [codeT] at h
  cases draw with
  | true =>
   simp only [cond_true] at h
   exact runDraw_ok hI hS hG hF hQ hE hL hR hA h norm
  | false =>
   simp only [cond_false] at h
   refine wpIn_region ?_
   have := runOpsT_ok (F := F) (n := n) (Q := Q) (B := B) hI hS hG hF hE ops.toList 0 V a s A w hL hR hA (by simp) h norm
   rw [List.range_eq_range']
   simpa using this
 | seq x y =>
  simp only [codeT] at h
  refine wpIn_seq (hI.code hF hL hrd hR hA (Sat_bind _ _ _ _ h) (fun pe o ho => ?_) (fun ch A w hp => hQ ch A w hp))
  have other : ∀ {o : Out}, K pe o → (∀ a' s', o ≠ .code .normal a' s') → ∃ e a s, o = .code e a s ∧ ∀ V' A w, Ext V V' → V'.toPE = pe → Rel P V' s B w → ARel V' a A → Exit.then (fun a w => y.wpIn F n P Q a w) Q (exOf e) A w := by
   intro o hk hne
   obtain ⟨e, a', s', e1, e2⟩ := hK _ _ hk
   refine ⟨e, a', s', e1, fun V' A' w' x1 x2 x3 x4 => ?_⟩
   have := e2 V' A' w' x1 x2 x3 x4
   cases e with
   | normal => exact (hne a' s' e1).elim
   | exit id => exact this
   | goto l => exact this
   | ret => exact this
  cases o with
  | val v s' => exact other ho (by simp)
  | err k => exact other ho (by simp)
  | again vs' => exact other ho (by simp)
  | code e a' s' =>
   cases e with
   | exit id => exact other ho (by simp)
   | goto l => exact other ho (by simp)
   | ret => exact other ho (by simp)
   | normal =>
    refine ⟨.normal, a', s', rfl, fun V' A' w' x1 x2 x3 x4 => ?_⟩
    subst x2
    exact hI.code hF (hL.mono x1) (hrd.mono x1) x3 x4 ho (hK.mono x1) hQ
 | cond o x y =>
  simp only [codeT, condT] at h
  split at h
  ·rename_i b hb
   have := evO_ok hA hR.globOk hb
   simp only [AV.conc, Option.some.injEq] at this
   refine wpIn_cond (t := b) this.symm ?_
   cases b with
   | true => exact hI.code hF hL hrd hR hA h hK hQ
   | false => exact hI.code hF hL hrd hR hA h hK hQ
  ·rename_i c hc
   obtain ⟨z, hz, ez⟩ := conc_bx (evO_ok hA hR.globOk hc)
   refine wpIn_cond (t := z) ez ?_
   split at h
   ·rename_i b hb
    have := decB_ok hR c b z hb hz
    subst this
    cases z with
    | true => exact hI.code hF hL hrd hR hA h hK hQ
    | false => exact hI.code hF hL hrd hR hA h hK hQ
   ·have hR1 := learn_ok c z s hR hz
    split at h
    ·rename_i t
     cases hdb : Nat.blt t big with
     | false => rw [hdb] at h; exact (hE _ _ h).elim
     | true =>
      rw [hdb] at h
      simp only [cond_true, Sat, hz] at h
      have ht : t < big := by simpa using hdb
      have hA1 := hA.setB (d := t) (c := c) (b := z) (by simpa [evO] using hc) hz ht
      cases z with
      | true => exact hI.code hF hL hrd hR1 hA1 (h.1 ((BE.T_iff c _ true hz).2 rfl)) hK hQ
      | false => exact hI.code hF hL hrd hR1 hA1 (h.2 ((BE.T_iff c _ false hz).2 rfl)) hK hQ
    ·simp only [Sat] at h
     have hz' : c.val V.toPE.σ V.toPE.β = some z := hz
     rw [hz'] at h
     cases z with
     | true => exact hI.code hF hL hrd hR1 hA (h.1 ((BE.T_iff c _ true hz).2 rfl)) hK hQ
     | false => exact hI.code hF hL hrd hR1 hA (h.2 ((BE.T_iff c _ false hz).2 rfl)) hK hQ
  ·exact (hE _ _ h).elim
 | block id b =>
  simp only [codeT] at h
  refine wpIn_block (hI.code hF hL hrd hR hA (Sat_bind _ _ _ _ h) (fun pe o ho => ?_) (fun ch A w hp => hQ ch A w hp))
  have other : ∀ {o : Out}, K pe o → (∀ i a' s', o ≠ .code (.exit i) a' s') → ∃ e a s, o = .code e a s ∧ ∀ V' A w, Ext V V' → V'.toPE = pe → Rel P V' s B w → ARel V' a A → Exit.inBlock id Q (exOf e) A w := by
   intro o hk hne
   obtain ⟨e, a', s', e1, e2⟩ := hK _ _ hk
   refine ⟨e, a', s', e1, fun V' A' w' x1 x2 x3 x4 => ?_⟩
   have := e2 V' A' w' x1 x2 x3 x4
   cases e with
   | normal => exact this
   | exit i => exact (hne i a' s' e1).elim
   | goto l => exact this
   | ret => exact this
  cases o with
  | val v s' => exact other ho (by simp)
  | err k => exact other ho (by simp)
  | again vs' => exact other ho (by simp)
  | code e a' s' =>
   cases e with
   | normal => exact other ho (by simp)
   | goto l => exact other ho (by simp)
   | ret => exact other ho (by simp)
   | exit i =>
    refine ⟨.exit i, a', s', rfl, fun V' A' w' x1 x2 x3 x4 => ?_⟩
    subst x2
    simp only at ho
    cases hc : Nat.beq i id with
    | true =>
     rw [hc] at ho
     have hi : i = id := by simpa using hc
     obtain ⟨e', a2, s2, e1, e2⟩ := hK _ _ ho
     cases e1
     show (if i = id then _ else _)
     rw [if_pos hi]; exact e2 V' A' w' x1 rfl x3 x4
    | false =>
     rw [hc] at ho
     have hi : ¬ i = id := by simpa using hc
     obtain ⟨e', a2, s2, e1, e2⟩ := hK _ _ ho
     cases e1
     show (if i = id then _ else _)
     rw [if_neg hi]; exact e2 V' A' w' x1 rfl x3 x4
 | loop b =>
  simp only [codeT] at h
  split at h
  ·exact loopT_ok hI hF hL hrd hR hA h hK hQ
  ·exact wpIn_loop_rounds m (hI.loop hF hL hrd hR hA h hK hQ)
 | rangeFunc f params assign body =>
  simp only [codeT] at h
  exact rangeT_ok hI hG hF hL hrd hR hA h hK hQ
theorem step_ok (hI : IhOk P g SP ih m) (hS : SpsOk P g SP) (hG : GOk P g) : IhOk P g SP (step g ih) (m + 1) := by
 refine ⟨fun hF hL hrd hR hA h hK hQ => codeT_ok hI hS hG hF hL hrd hR hA h hK hQ, fun hF hL hR hx h hK => callT_ok hI hG hF hL hR hx h hK, fun hF hL hR hp hx h hK => yieldT_ok hI hG hF hL hR hp hx h hK, ?_⟩
 intro V F n B w lv rd c a A s K Q hF hL hrd hR hA h hK hQ
 simp only [step] at h
 show c.wpIn F n P (Exit.then (Code.roundsIn F n P c Q m) Q) A w
 refine hI.code hF hL hrd hR hA (Sat_bind _ _ _ _ h) (fun pe o ho => ?_) (fun ch A w hp => hQ ch A w hp)
 have other : ∀ {o : Out}, K pe o → (∀ a' s', o ≠ .code .normal a' s') → ∃ e a s, o = .code e a s ∧ ∀ V' A w, Ext V V' → V'.toPE = pe → Rel P V' s B w → ARel V' a A → Exit.then (Code.roundsIn F n P c Q m) Q (exOf e) A w := by
  intro o hk hne
  obtain ⟨e, a', s', e1, e2⟩ := hK _ _ hk
  refine ⟨e, a', s', e1, fun V' A' w' x1 x2 x3 x4 => ?_⟩
  have := e2 V' A' w' x1 x2 x3 x4
  cases e with
  | normal => exact (hne a' s' e1).elim
  | exit id => exact this
  | goto l => exact this
  | ret => exact this
 cases o with
 | val v s' => exact other ho (by simp)
 | err k => exact other ho (by simp)
 | again vs' => exact other ho (by simp)
 | code e a' s' =>
  cases e with
  | exit id => exact other ho (by simp)
  | goto l => exact other ho (by simp)
  | ret => exact other ho (by simp)
  | normal =>
   refine ⟨.normal, a', s', rfl, fun V' A' w' x1 x2 x3 x4 => ?_⟩
   subst x2
   exact hI.loop hF (hL.mono x1) (hrd.mono x1) x3 x4 ho (hK.mono x1) hQ
theorem ev_ok (hS : SpsOk P g SP) (hG : GOk P g) : ∀ n, IhOk P g SP (ev g n) n
 | 0 => by
  have no : ∀ {K : PE → Out → Prop} {pe : PE} {Q : Prop}, (∀ pe n, ¬ K pe (.err n)) → Sat SP (.out (.err 0)) pe K → Q := fun h hs => (h _ _ hs).elim
  exact ⟨fun _ _ _ _ _ h hK _ => no (fun pe n hk => by obtain ⟨_, _, _, e, _⟩ := hK _ _ hk; cases e) h,
   fun _ _ _ _ h hK => no (fun pe n hk => by obtain ⟨_, _, e, _⟩ := hK _ _ hk; cases e) h,
   fun _ _ _ _ _ h hK => no (fun pe n hk => by obtain ⟨_, _, e, _⟩ := hK _ _ hk; cases e) h,
   fun _ _ _ _ _ h hK _ => no (fun pe n hk => by obtain ⟨_, _, _, e, _⟩ := hK _ _ hk; cases e) h⟩
 | n + 1 => step_ok (ev_ok hS hG n) hS hG
theorem ev_calls (hS : SpsOk P g SP) (hG : GOk P g) (fuel : Nat) {V : Env} {B w : World} {f : FuncId} {args : List AV} {xs : List Value} {s : S} {K : PE → Out → Prop} {R : Ending → World → Prop} (hR : Rel P V s B w) (hx : concL V args = some xs)
  (h : Sat SP (ev g fuel (.call [] f args) s) V.toPE K) (hK : ValK P V B K R) : Calls P f xs.toArray w R :=
 callsIn_wide.1 ((ev_ok hS hG fuel).call (F := Fence.wide) (n := 0) (lv := []) ⟨fun _ => trivial, rfl, rfl⟩ (fun i c h => by simp [lvGet] at h) hR hx h hK)
end
#print axioms ev_calls
end Go.Proofs.YtjabmipkllkfbaaGreatDoor.Vc
namespace Go.Proofs.YtjabmipkllkfbaaGreatDoor.Vc
open Go.RowKit
section
variable {P : Program} {B w : World}
def s0 : S := { heap := .e, next := 0, know := ⟨[], [], []⟩, nb := 0, ns := 0, nv := 0, nr := 0, memo := [] }
def pe0 (m : Mem) : PE := { σ := [], β := [], ς := [], τ := [], ρ := [], mem := m, mem0 := m }
theorem rel0 {m : Mem} (hm : ∀ b o, m b = some o → w.heap[b]? = some o) : Rel P (noE (pe0 m)) s0 w w :=
 ⟨⟨rfl, fun i r h => (by simp [s0, lget] at h), fun a b t h => (by cases h), fun a b t h => (by cases h)⟩, ⟨rfl, rfl, rfl, rfl⟩, fun c v h => (by cases h), fun b o h => ⟨hm b o h, fun id blk p hb => (by cases hb)⟩, fun b o h => .inl h, Below.refl _ _,
  fun id b h => (by cases h), fun id p h => (by cases h), fun id c h => (by cases h), fun id id' b b' p p' h => (by cases h), fun g p h => (by cases h),
  ⟨List.nodup_nil, fun o h => (by cases h), fun o h => (by cases h)⟩⟩
theorem appK_arg {R : Type} {pe : PE} {K : R → Prop} : ∀ (ks : List Kd) (vs : List AV) (f : FnT ks R), (∀ k ∈ ks, k ≠ .r) → appK pe ks vs f K → ∃ ws, concL (noE pe) vs = some ws ∧ argIs ks f ws K := by
 intro ks
 induction ks with
 | nil => intro vs f _ h; cases vs <;> first | exact ⟨[], rfl, h⟩ | exact h.elim
 | cons k ks ih =>
  intro vs f hnr ha
  have hnr' : ∀ k ∈ ks, k ≠ Kd.r := fun k hk => hnr k (List.mem_cons_of_mem _ hk)
  cases vs with
  | nil => cases k <;> exact ha.elim
  | cons v vs =>
   cases k with
   | i k =>
    cases v <;> simp only [appK] at ha <;> try exact ha.elim
    rename_i k' e
    split at ha
    ·rename_i x hk hx
     have := kindEq_eq hk; subst this
     obtain ⟨ws, h1, h2⟩ := ih vs _ hnr' ha.2
     exact ⟨.int k x :: ws, concL_mk (int_mk hx) h1, rfl, ha.1, h2⟩
    ·exact ha.elim
   | b =>
    simp only [appK] at ha
    split at ha
    ·rename_i x hx
     obtain ⟨ws, h1, h2⟩ := ih vs _ hnr' ha
     refine ⟨.bool x :: ws, concL_mk ?_ h1, h2⟩
     cases v <;> simp only [boolV] at hx <;> first
       | (cases hx; rfl)
       | exact bx_mk hx
       | cases hx
    ·exact ha.elim
   | s =>
    simp only [appK] at ha
    split at ha
    ·rename_i x hx
     obtain ⟨ws, h1, h2⟩ := ih vs _ hnr' ha
     exact ⟨.string ⟨x.toArray⟩ :: ws, concL_mk (strV_conc (V := noE pe) hx) h1, h2⟩
    ·exact ha.elim
   | r => exact (hnr .r (List.mem_cons_self ..) rfl).elim
   | v =>
    cases v <;> simp only [appK] at ha <;> try exact ha.elim
    rename_i i
    split at ha
    ·rename_i x hx
     obtain ⟨v0, _, h4⟩ := opqV_some hx
     have h1 := (oneV_some h4).1
     subst h1
     obtain ⟨ws, h1, h2⟩ := ih vs _ hnr' ha
     exact ⟨x :: ws, concL_mk hx h1, h4, h2⟩
    ·exact ha.elim
   | sl =>
    cases v <;> simp only [appK] at ha <;> try exact ha.elim
    ·rename_i a off len cap
     split at ha
     ·rename_i p o n c q1 q2 q3 q4
      obtain ⟨ws, h1, h2⟩ := ih vs _ hnr' ha.2
      refine ⟨.slice (p.map fun p => p.add o) n c :: ws, concL_mk ?_ h1, ha.1, h2⟩
      show xsV pe a off len cap = _
      simp only [xsV, q1, q2, q3, q4]
     ·exact ha.elim
    ·obtain ⟨ws, h1, h2⟩ := ih vs _ hnr' ha
     exact ⟨.slice none 0 0 :: ws, concL_mk rfl h1, ⟨by omega, by omega⟩, h2⟩
def partsA : List (Option Nat) → AV → List AV
 | [_], v => [v]
 | _, .tup l => l
 | _, _ => []
def resK (sg : Sig) (post : Mem → FnT sg.res Prop) : PE → Out → Prop := fun pe o =>
 match o with
 | .val v _ => (match flatA sg.rgrp (partsA sg.rgrp v) with
  | some l => appK pe sg.res l (post pe.mem) fun p => p
  | none => False)
 | _ => False
theorem retOf_parts {V : Env} {g : List (Option Nat)} {v : AV} {x : Value} {ws ys : List Value} {l : List AV} (hne : g ≠ []) (hv : v.conc V = some x) (hf : flatA g (partsA g v) = some l) (hl : concL V l = some ws) : ∃ rs, packV g ws = some rs ∧ x = retOf rs := by
 have key : ∀ {xs : List Value}, concL V (partsA g v) = some xs → packV g ws = some xs := fun hx => by
  obtain ⟨ys, h1, h2⟩ := flat_ok hf hx
  rw [hl] at h1; cases h1; exact h2
 cases g with
 | nil => exact (hne rfl).elim
 | cons k g =>
  cases g with
  | nil =>
   have e : partsA [k] v = [v] := by cases v <;> rfl
   have := key (xs := [x]) (by rw [e]; exact concL_mk hv (concL_nil V))
   exact ⟨[x], this, rfl⟩
  | cons k' g =>
   cases v with
   | tup l0 =>
    obtain ⟨vs, rfl, h1⟩ := conc_tup hv
    have := key (xs := vs) h1
    refine ⟨vs, this, ?_⟩
    have hlen : vs.length ≥ 2 := by
     have hp : ∀ (g : List (Option Nat)) (ws rs : List Value), packV g ws = some rs → rs.length = g.length := by
      intro g
      induction g with
      | nil => intro ws rs h; cases ws <;> simp [packV] at h; subst h; rfl
      | cons n g ih =>
       intro ws rs h
       cases n with
       | none =>
        cases ws with
        | nil => simp [packV] at h
        | cons w ws =>
         simp only [packV] at h
         split at h
         ·rename_i l hl; cases h; simp [ih _ _ hl]
         ·cases h
       | some n =>
        simp only [packV] at h
        split at h
        ·rename_i l l' _ hl; cases h; simp [ih _ _ hl]
        ·cases h
     have := hp _ _ _ this
     simp at this; omega
    match vs, hlen with
    | a :: b :: r, _ => rfl
   | _ =>
    all_goals
     (have hp : flatA (k :: k' :: g) [] = some l := hf
      cases k <;> simp [flatA] at hp)
def kOk : List Kd → Bool
 | [] => true
 | .r :: _ => false
 | _ :: ks => kOk ks
theorem kOk_spec : ∀ {ks : List Kd}, kOk ks = true → ∀ k ∈ ks, k ≠ Kd.r := by
 intro ks
 induction ks with
 | nil => intro _ k h; cases h
 | cons k ks ih =>
  intro h k' hk'
  cases k <;> first
   | cases h
   | (cases hk' with
      | head => simp
      | tail _ hk' => exact ih h k' hk')
def sigOk (sg : Sig) : Bool := kOk sg.res && !sg.rgrp.isEmpty
theorem packA_of {V : Env} : ∀ {g : List (Option Nat)} {vs : List AV} {ys xs : List Value}, packV g ys = some xs → concL V vs = some ys → ∃ l, packA g vs = some l ∧ concL V l = some xs := by
 intro g
 induction g with
 | nil =>
  intro vs ys xs h hy
  cases ys <;> simp [packV] at h
  subst h
  have : vs = [] := List.length_eq_zero_iff.1 (concL_len hy).symm
  subst this
  exact ⟨[], rfl, rfl⟩
 | cons n g ih =>
  intro vs ys xs h hy
  cases n with
  | none =>
   cases vs with
   | nil => cases hy; simp [packV] at h
   | cons v vs =>
    obtain ⟨y, r, rfl, h1, h2⟩ := concL_cons hy
    simp only [packV] at h
    split at h
    ·rename_i l hl; cases h
     obtain ⟨l', k1, k2⟩ := ih hl h2
     exact ⟨v :: l', by simp only [packA, k1], concL_mk h1 k2⟩
    ·cases h
  | some n =>
   simp only [packV] at h
   split at h
   ·rename_i u l' h1 h2; cases h
    obtain ⟨e1, e2, e3⟩ := ltake_some _ _ _ h1
    rw [ldrop_eq] at h2
    obtain ⟨l, k1, k2⟩ := ih h2 (concL_drop hy n)
    have hyl := concL_len hy
    have ht : ltake n vs = some (vs.take n) := by
     obtain ⟨a1, a2⟩ := ltake_app (vs.take n) (vs.drop n) n (by simp; omega)
     rw [List.take_append_drop] at a1; exact a1
    refine ⟨.agg (vs.take n) :: l, by simp only [packA, ht, ldrop_eq, k1], concL_mk (agg_mk (by rw [e1]; exact concL_take hy n)) k2⟩
   ·cases h
theorem con_ok {g : G} {SP : Nat → Option Sp} (hS : SpsOk P g SP) (hG : GOk P g) (fuel : Nat) (c : Sp) (args : List AV) (hr : sigOk c.toSig = true) (hargs : packA c.grp (pushK c.args s0).1 = some args)
  (h : ∀ m, allK c.args (pe0 m) c.spec fun pe r => r.1 m → Sat SP (ev g fuel (.call [] c.fn args) (pushK c.args s0).2) pe (resK c.toSig r.2)) : SpOk P c := by
 simp only [sigOk, Bool.and_eq_true] at hr
 intro m w ys xs hm hpk hpre
 have hself : ∀ {R : Type} {K : R → Prop} (ks : List Kd) (f : FnT ks R) (vs : List Value), argIs ks f vs K → argIs ks f vs (fun r => K r ∧ ∀ K' : R → Prop, K' r → argIs ks f vs K') := by
  intro R K ks
  induction ks with
  | nil => intro f vs h; cases vs <;> first | exact ⟨h, fun K' hk => hk⟩ | exact h.elim
  | cons k ks ih =>
   intro f vs h
   cases vs with
   | nil => cases k <;> exact h.elim
   | cons v vs =>
    cases k with
    | i k => cases v <;> first | exact ⟨h.1, h.2.1, argIs_mono (fun r hr => ⟨hr.1, fun K' hk => ⟨h.1, h.2.1, hr.2 K' hk⟩⟩) _ _ _ (ih _ _ h.2.2)⟩ | exact h.elim
    | b => cases v <;> first | exact ih _ _ h | exact h.elim
    | s => cases v <;> first | exact ih _ _ h | exact h.elim
    | r => exact h.elim
    | v => exact ⟨h.1, argIs_mono (fun r hr => ⟨hr.1, fun K' hk => ⟨h.1, hr.2 K' hk⟩⟩) _ _ _ (ih _ _ h.2)⟩
    | sl => cases v <;> first | exact ⟨h.1, argIs_mono (fun r hr => ⟨hr.1, fun K' hk => ⟨h.1, hr.2 K' hk⟩⟩) _ _ _ (ih _ _ h.2)⟩ | exact h.elim
 have hh := argIs_vars (P := P) (B := w) (w := w) c.args ys (noE (pe0 m)) s0 c.spec (rel0 hm) (hself _ _ _ hpre) (h m)
 refine hh.elim fun pe hh => hh.elim fun r hh => ?_
 obtain ⟨h1, ⟨h2, hback⟩, h3⟩ := hh
 obtain ⟨l, e1, e2⟩ := packA_of hpk (noE_concL (V := (noE (pe0 m)).at pe) h3.vals rfl)
 rw [hargs] at e1; cases e1
 refine ev_calls hS hG fuel h3.rel e2 (h1 h2) (fun pe' o ho => ?_)
 unfold resK at ho
 cases o with
 | code e a s => exact ho.elim
 | again vs => exact ho.elim
 | err k => exact ho.elim
 | val v s =>
  refine ⟨v, s, rfl, fun V' x w' k1 k2 k3 k4 => ?_⟩
  subst k2
  simp only at ho
  split at ho
  ·rename_i fl hfl
   obtain ⟨ws, f1, f2⟩ := appK_arg c.res _ _ (kOk_spec hr.1) ho
   obtain ⟨rs', g1, g2⟩ := retOf_parts (ys := ys) (by intro e; rw [e] at hr; simp at hr) k4 hfl (noE_concL f1 rfl)
   refine ⟨V'.mem, ws, rs', by rw [g2], g1, k3.below, fun b o hb => k1.up.mem b o (h3.up.mem b o hb), fun b o hb => ⟨(k3.mem b o hb).1, ?_⟩, hback _ f2⟩
   rcases k3.memB b o hb with q | q
   ·left
    rw [show V'.mem0 = pe.mem0 from k1.up.mem0, h3.up.mem0] at q
    exact q
   ·exact .inr q
  ·exact ho.elim
def specTab : Nat → List Sp → List (Nat × FuncId × Sig)
 | _, [] => []
 | k, sp :: l => (k, sp.fn, sp.toSig) :: specTab (Nat.succ k) l
def AllOk (P : Program) : List Sp → Prop
 | [] => True
 | sp :: l => SpOk P sp ∧ AllOk P l
theorem specTab_ok : ∀ (l : List Sp) (k j : Nat) (f : FuncId) (sg : Sig), AllOk P l → specOf (specTab k l) f = some (j, sg) → ∃ sp, k ≤ j ∧ lget l (j - k) = some sp ∧ sp.fn = f ∧ sp.toSig = sg ∧ SpOk P sp := by
 intro l
 induction l with
 | nil => intro k j f ks _ h; cases h
 | cons sp l ih =>
  intro k j f ks ha h
  simp only [specTab, specOf] at h
  cases hb : Nat.beq sp.fn f with
  | true =>
   rw [hb] at h; cases h
   exact ⟨sp, Nat.le_refl _, by simp [lget], by simpa using hb, rfl, ha.1⟩
  | false =>
   rw [hb] at h
   obtain ⟨sp', h1, h2, h3⟩ := ih (Nat.succ k) j f ks ha.2 h
   have h1' : k + 1 ≤ j := h1
   refine ⟨sp', by omega, ?_, h3⟩
   rw [lget_eq] at h2 ⊢
   rw [show j - k = (j - Nat.succ k) + 1 by omega]
   simpa using h2
theorem sps_of {g : G} (l : List Sp) (ha : AllOk P l) (hg : g.specs = specTab 0 l) : SpsOk P g (lget l) := by
 intro f k ks h
 rw [hg] at h
 obtain ⟨sp, _, h1, h2, h3, h4⟩ := specTab_ok l 0 k f ks ha h
 exact ⟨sp, h1, h2, h3, h4⟩
end
end Go.Proofs.YtjabmipkllkfbaaGreatDoor.Vc
namespace Go.Proofs.YtjabmipkllkfbaaGreatDoor.Vc
open Go.RowKit
def gH : List (Nat × List AV) → Tr Blk
 | [] => .e
 | (g, l) :: r => Tr.set 64 (gH r) (Nat.succ (Nat.mul 2 g)) (.ro l)
def gE : List (Nat × List AV) → Nat → Option (Nat × Nat)
 | [], _ => none
 | (g, _) :: r, id => if id = 2 * g + 1 then some (g, 0) else gE r id
def gOk : List (Nat × List AV) → Bool
 | [] => true
 | (g, _) :: r => Nat.blt (Nat.succ (Nat.mul 2 g)) big && gOk r
def valL : List AV → Option (List Value)
 | [] => some []
 | .int k (.lit n) :: l => (match valL l with | some r => some (.int k n :: r) | none => none)
 | .str t :: l => (match valL l with | some r => some (.string ⟨t.toArray⟩ :: r) | none => none)
 | .bool b :: l => (match valL l with | some r => some (.bool b :: r) | none => none)
 | _ => none
theorem valL_conc {V : Env} : ∀ {l : List AV} {r : List Value}, valL l = some r → concL V l = some r := by
 intro l
 induction l with
 | nil => intro r h; exact h
 | cons x l ih =>
  intro r h
  unfold valL at h
  split at h
  ·rename_i heq; cases heq
  ·rename_i heq; cases heq
   split at h
   ·rename_i r' hr; cases h; exact concL_mk rfl (ih hr)
   ·cases h
  ·rename_i heq; cases heq
   split at h
   ·rename_i r' hr; cases h; exact concL_mk rfl (ih hr)
   ·cases h
  ·rename_i heq; cases heq
   split at h
   ·rename_i r' hr; cases h; exact concL_mk rfl (ih hr)
   ·cases h
  ·cases h
def GlobsAt (m : Mem) : List (Nat × List AV) → Prop
 | [] => True
 | (g, l) :: r => (∃ vs rest e fz, valL l = some vs ∧ m g = some (.cells (vs ++ rest).toArray e fz)) ∧ GlobsAt m r
theorem GlobsAt.sub {m m' : Mem} (h : MemSub m m') : ∀ {gl : List (Nat × List AV)}, GlobsAt m gl → GlobsAt m' gl := by
 intro gl
 induction gl with
 | nil => intro _; trivial
 | cons x r ih =>
  intro hg
  obtain ⟨g, l⟩ := x
  obtain ⟨⟨vs, rest, e, fz, h1, h2⟩, h3⟩ := hg
  exact ⟨⟨vs, rest, e, fz, h1, h _ _ h2⟩, ih h3⟩
structure Globs (m : Mem) (gl : List (Nat × List AV)) : Prop where
 h : GlobsAt m gl
theorem Globs.sub {m m' : Mem} {gl : List (Nat × List AV)} (h : MemSub m m') (k : Globs m gl) : Globs m' gl := ⟨k.h.sub h⟩
def sG (gl : List (Nat × List AV)) : S := { heap := gH gl, next := 0, know := ⟨[], [], []⟩, nb := 0, ns := 0, nv := 0, nr := 0, memo := [] }
def vG (gl : List (Nat × List AV)) (m : Mem) : Env := { pe0 m with E := gE gl, L := fun _ => none }
section
variable {P : Program} {B w : World}
theorem gH_get : ∀ (gl : List (Nat × List AV)), gOk gl = true → ∀ id, (gH gl).get id = none ∧ gE gl id = none ∨ ∃ g l, (g, l) ∈ gl ∧ id = 2 * g + 1 ∧ (gH gl).get id = some (.ro l) ∧ gE gl id = some (g, 0) := by
 intro gl
 induction gl with
 | nil => intro _ id; exact .inl ⟨rfl, rfl⟩
 | cons x r ih =>
  intro hok id
  obtain ⟨g, l⟩ := x
  simp only [gOk, Bool.and_eq_true, nblt, decide_eq_true_eq] at hok
  have e : (gH ((g, l) :: r)).get id = if id = 2 * g + 1 then some (.ro l) else (gH r).get id := by
   simp only [gH]
   rw [Tr.get_set64 _ _ _ _ hok.1]
   rfl
  simp only [gE]
  rw [e]
  by_cases hi : id = 2 * g + 1
  ·right
   exact ⟨g, l, List.mem_cons_self .., hi, by rw [if_pos hi], by rw [if_pos hi]⟩
  ·rw [if_neg hi, if_neg hi]
   rcases ih hok.2 id with h | ⟨g', l', h1, h2⟩
   ·exact .inl h
   ·exact .inr ⟨g', l', List.mem_cons_of_mem _ h1, h2⟩
theorem globs_mem {m : Mem} : ∀ {gl : List (Nat × List AV)}, GlobsAt m gl → ∀ {g : Nat} {l : List AV}, (g, l) ∈ gl → ∃ vs rest e fz, valL l = some vs ∧ m g = some (.cells (vs ++ rest).toArray e fz) := by
 intro gl
 induction gl with
 | nil => intro _ g l h; cases h
 | cons x r ih =>
  intro hg g l h
  obtain ⟨g', l'⟩ := x
  cases h with
  | head => exact hg.1
  | tail _ h => exact ih hg.2 h
theorem relG {gl : List (Nat × List AV)} (hok : gOk gl = true) {m : Mem} (hm : ∀ b o, m b = some o → w.heap[b]? = some o) (hg : GlobsAt m gl) : Rel P (vG gl m) (sG gl) w w := by
 have ro : ∀ id b, (sG gl).heap.get id = some b → ∃ g l, (g, l) ∈ gl ∧ id = 2 * g + 1 ∧ b = .ro l ∧ gE gl id = some (g, 0) := by
  intro id b h
  rcases gH_get gl hok id with ⟨h1, _⟩ | ⟨g, l, h1, h2, h3, h4⟩
  ·rw [show (sG gl).heap = gH gl from rfl, h1] at h; cases h
  ·rw [show (sG gl).heap = gH gl from rfl, h3] at h; cases h
   exact ⟨g, l, h1, h2, rfl, h4⟩
 refine ⟨⟨rfl, fun i r h => (by simp [sG, lget] at h), fun a b t h => (by cases h), fun a b t h => (by cases h)⟩, ⟨rfl, rfl, rfl, rfl⟩, fun c v h => (by cases h), fun b o h => ⟨hm b o h, fun id blk p hb ho => ?_⟩, fun b o h => .inl h, Below.refl _ _,
  fun id b h => ?_, fun id p h => ?_, fun id c h => (by cases h), fun id id' b b' p p' h _ ho => ?_, fun g p h => ?_, ⟨List.nodup_nil, fun o h => (by cases h), fun o h => (by cases h)⟩⟩
 ·obtain ⟨_, _, _, _, rfl, _⟩ := ro id blk hb
  cases ho
 ·obtain ⟨g, l, h1, h2, rfl, h4⟩ := ro id b h
  obtain ⟨vs, rest, e, fz, k1, k2⟩ := globs_mem hg h1
  have k3 := hm _ _ k2
  refine ⟨(g, 0), h4, ⟨vs, rest, e, fz, valL_conc k1, k3⟩, fun h => (by cases h), fun _ => ?_⟩
  exact .inl (Array.getElem?_eq_some_iff.1 k3).1
 ·rcases gH_get gl hok id with ⟨_, h1⟩ | ⟨g, l, _, _, h3, _⟩
  ·rw [show (vG gl m).E id = gE gl id from rfl, h1] at h; cases h
  ·exact ⟨_, h3⟩
 ·obtain ⟨_, _, _, _, rfl, _⟩ := ro id b h
  cases ho
 ·rcases gH_get gl hok (2 * g + 1) with ⟨_, h1⟩ | ⟨g', l, _, h2, _, h4⟩
  ·rw [show (vG gl m).E (2 * g + 1) = gE gl (2 * g + 1) from rfl, h1] at h; cases h
  ·rw [show (vG gl m).E (2 * g + 1) = gE gl (2 * g + 1) from rfl, h4] at h; cases h
   simp only; omega
def leavesA : AV → List AV
 | .tup l => l.flatMap AV.cells
 | v => v.cells
def frzOut : Out → T
 | .val v s => (match frzS (leavesA v) s with | (p, s') => preT p (.out (.val v s')))
 | o => .out o
def forallF {R : Type} : (ks : List Kd) → FnT ks R → (R → Prop) → Prop
 | [], f, C => C f
 | .i _ :: ks, f, C => ∀ x, forallF ks (f x) C
 | .b :: ks, f, C => ∀ x, forallF ks (f x) C
 | .s :: ks, f, C => ∀ x, forallF ks (f x) C
 | .r :: ks, f, C => ∀ x, forallF ks (f x) C
 | .v :: ks, f, C => ∀ x, forallF ks (f x) C
 | .sl :: ks, f, C => ∀ p n c, forallF ks (f p n c) C
theorem argIs_all {R : Type} {C K : R → Prop} : ∀ (ks : List Kd) (f : FnT ks R) (vs : List Value), forallF ks f C → argIs ks f vs K → ∃ r, C r ∧ K r := by
 intro ks
 induction ks with
 | nil => intro f vs hc h; cases vs <;> first | exact ⟨f, hc, h⟩ | exact h.elim
 | cons k ks ih =>
  intro f vs hc h
  cases vs with
  | nil => cases k <;> exact h.elim
  | cons v vs =>
   cases k with
   | i k => cases v <;> first | exact ih _ _ (hc _) h.2.2 | exact h.elim
   | b => cases v <;> first | exact ih _ _ (hc _) h | exact h.elim
   | s => cases v <;> first | exact ih _ _ (hc _) h | exact h.elim
   | r => exact h.elim
   | v => exact ih _ _ (hc _) h.2
   | sl => cases v <;> first | exact ih _ _ (hc _ _ _) h.2 | exact h.elim
def needs : List BE → List Pre
 | [] => []
 | c :: l => .need c :: needs l
def learnL : List BE → S → S
 | [], s => s
 | c :: l, s => learnL l (learn s c true)
theorem needs_ok {V : Env} {C : PE → Prop} : ∀ (fs : List BE) (s : S), Rel P V s B w → preSat (needs fs) V.toPE C → Rel P V (learnL fs s) B w ∧ C V.toPE := by
 intro fs
 induction fs with
 | nil => intro s hR h; exact ⟨hR, h⟩
 | cons c l ih =>
  intro s hR h
  simp only [needs, preSat, Pre.sat] at h
  cases hc : c.val V.σ V.β with
  | none => rw [hc] at h; exact h.elim
  | some z =>
   rw [hc] at h
   have hz := (BE.T_iff _ _ true hc).1 h.1
   subst hz
   exact ih _ (learn_ok c true s hR hc) h.2
theorem con_okC (gl : List (Nat × List AV)) (fs cs : List BE) (hgl : gOk gl = true) {g : G} {SP : Nat → Option Sp} (hS : SpsOk P g SP) (hG : GOk P g) (fuel : Nat) (c : Sp) (args : List AV) (hr : sigOk c.toSig = true) (hargs : packA c.grp (pushK c.args (sG gl)).1 = some args)
  (hpg : ∀ m, forallF c.args c.spec fun r => r.1 m → GlobsAt m gl)
  (h : ∀ m, allK c.args (pe0 m) c.spec fun pe r => r.1 m → preSat (needs fs) pe fun pe => Sat SP (splitL (fun s => ev g fuel (.call [] c.fn args) s) (learnL fs (pushK c.args (sG gl)).2) cs) pe (resK c.toSig r.2)) : SpOk P c := by
 simp only [sigOk, Bool.and_eq_true] at hr
 intro m w ys xs hm hpk hpre
 have hglob : GlobsAt m gl := by
  obtain ⟨r, h1, h2⟩ := argIs_all _ _ _ (hpg m) hpre
  exact h1 h2
 have hself : ∀ {R : Type} {K : R → Prop} (ks : List Kd) (f : FnT ks R) (vs : List Value), argIs ks f vs K → argIs ks f vs (fun r => K r ∧ ∀ K' : R → Prop, K' r → argIs ks f vs K') := by
  intro R K ks
  induction ks with
  | nil => intro f vs h; cases vs <;> first | exact ⟨h, fun K' hk => hk⟩ | exact h.elim
  | cons k ks ih =>
   intro f vs h
   cases vs with
   | nil => cases k <;> exact h.elim
   | cons v vs =>
    cases k with
    | i k => cases v <;> first | exact ⟨h.1, h.2.1, argIs_mono (fun r hr => ⟨hr.1, fun K' hk => ⟨h.1, h.2.1, hr.2 K' hk⟩⟩) _ _ _ (ih _ _ h.2.2)⟩ | exact h.elim
    | b => cases v <;> first | exact ih _ _ h | exact h.elim
    | s => cases v <;> first | exact ih _ _ h | exact h.elim
    | r => exact h.elim
    | v => exact ⟨h.1, argIs_mono (fun r hr => ⟨hr.1, fun K' hk => ⟨h.1, hr.2 K' hk⟩⟩) _ _ _ (ih _ _ h.2)⟩
    | sl => cases v <;> first | exact ⟨h.1, argIs_mono (fun r hr => ⟨hr.1, fun K' hk => ⟨h.1, hr.2 K' hk⟩⟩) _ _ _ (ih _ _ h.2)⟩ | exact h.elim
 have hh := argIs_vars (P := P) (B := w) (w := w) c.args ys (vG gl m) (sG gl) c.spec (relG hgl hm hglob) (hself _ _ _ hpre) (h m)
 refine hh.elim fun pe hh => hh.elim fun r hh => ?_
 obtain ⟨h1, ⟨h2, hback⟩, h3⟩ := hh
 obtain ⟨l, e1, e2⟩ := packA_of hpk (noE_concL (V := (vG gl m).at pe) h3.vals rfl)
 rw [hargs] at e1; cases e1
 obtain ⟨hrel0, h1''⟩ := needs_ok fs _ h3.rel (h1 h2)
 obtain ⟨s', hrel, h1'⟩ := splitL_ok cs _ hrel0 h1''
 refine ev_calls hS hG fuel hrel e2 h1' (fun pe' o ho => ?_)
 unfold resK at ho
 cases o with
 | code e a s => exact ho.elim
 | again vs => exact ho.elim
 | err k => exact ho.elim
 | val v s =>
  refine ⟨v, s, rfl, fun V' x w' k1 k2 k3 k4 => ?_⟩
  subst k2
  simp only at ho
  split at ho
  ·rename_i fl hfl
   obtain ⟨ws, f1, f2⟩ := appK_arg c.res _ _ (kOk_spec hr.1) ho
   obtain ⟨rs', g1, g2⟩ := retOf_parts (ys := ys) (by intro e; rw [e] at hr; simp at hr) k4 hfl (noE_concL f1 rfl)
   refine ⟨V'.mem, ws, rs', by rw [g2], g1, k3.below, fun b o hb => k1.up.mem b o (h3.up.mem b o hb), fun b o hb => ⟨(k3.mem b o hb).1, ?_⟩, hback _ f2⟩
   rcases k3.memB b o hb with q | q
   ·left
    rw [show V'.mem0 = pe.mem0 from k1.up.mem0, h3.up.mem0] at q
    exact q
   ·exact .inr q
  ·exact ho.elim
def nrmI (K : Know) (e : IE) : IE := match e.rng K with | some (a, b) => bif ile b a then .lit a else e | none => e
theorem nrmI_ok {K : Know} {σ : List Int} (hK : KnowOk K σ) {e : IE} {z : Int} (h : e.val σ = some z) : (nrmI K e).val σ = some z := by
 unfold nrmI
 split
 ·rename_i a b hr
  obtain ⟨z', h1, h2, h3⟩ := IE.rng_ok hK e _ hr
  rw [h] at h1; cases h1
  cases c : ile b a with
  | false => exact h
  | true =>
   have c' : b ≤ a := by rw [ile_eq] at c; simpa using c
   simp only at h2 h3
   have : a = z := by omega
   rw [this]; rfl
 ·exact h
def nrmV (K : Know) : AV → AV
 | .int k e => .int k (nrmI K e)
 | .sl a off n c => .sl a (nrmI K off) (nrmI K n) (nrmI K c)
 | v => v
def nrmA (K : Know) : AV → AV
 | .agg l => .agg (l.map (nrmV K))
 | v => nrmV K v
theorem natV_nrm {K : Know} {σ : List Int} (hK : KnowOk K σ) {e : IE} {n : Nat} (h : natV σ e = some n) : natV σ (nrmI K e) = some n := by
 unfold natV at h ⊢
 cases hz : e.val σ with
 | none => rw [hz] at h; cases h
 | some z => rw [hz] at h; rw [nrmI_ok hK hz]; exact h
theorem nrmV_ok {K : Know} {V : Env} (hK : KnowOk K V.σ) {v : AV} {x : Value} (h : v.conc V = some x) : (nrmV K v).conc V = some x := by
 cases v with
 | int k e =>
  simp only [AV.conc, nrmV] at h ⊢
  cases hz : e.val V.σ with
  | none => rw [hz] at h; cases h
  | some z => rw [hz] at h; rw [nrmI_ok hK hz]; exact h
 | sl a off n c =>
  simp only [AV.conc, nrmV, xsV] at h ⊢
  split at h
  ·rename_i p o n' c' h1 h2 h3 h4
   rw [h1, natV_nrm hK h2, natV_nrm hK h3, natV_nrm hK h4]
   exact h
  ·cases h
 | _ => exact h
theorem nrmL_ok {K : Know} {V : Env} (hK : KnowOk K V.σ) : ∀ {l : List AV} {vs : List Value}, concL V l = some vs → concL V (l.map (nrmV K)) = some vs := by
 intro l
 induction l with
 | nil => intro vs h; exact h
 | cons x l ih =>
  intro vs h
  obtain ⟨v, r, rfl, h1, h2⟩ := concL_cons h
  exact concL_mk (nrmV_ok hK h1) (ih h2)
theorem nrmA_ok {K : Know} {V : Env} (hK : KnowOk K V.σ) {v : AV} {x : Value} (h : v.conc V = some x) : (nrmA K v).conc V = some x := by
 cases v with
 | agg l =>
  obtain ⟨vs, rfl, h1⟩ := conc_agg h
  show (AV.agg (l.map (nrmV K))).conc V = _
  have e : AV.conc.concL V (l.map (nrmV K)) = some vs := nrmL_ok hK h1
  simp only [AV.conc]
  rw [e]
 | _ => exact nrmV_ok hK h
theorem nrmAL_ok {K : Know} {V : Env} (hK : KnowOk K V.σ) : ∀ {l : List AV} {vs : List Value}, concL V l = some vs → concL V (l.map (nrmA K)) = some vs := by
 intro l
 induction l with
 | nil => intro vs h; exact h
 | cons x l ih =>
  intro vs h
  obtain ⟨v, r, rfl, h1, h2⟩ := concL_cons h
  exact concL_mk (nrmA_ok hK h1) (ih h2)
theorem con_okN (gl : List (Nat × List AV)) (fs cs : List BE) (hgl : gOk gl = true) {g : G} {SP : Nat → Option Sp} (hS : SpsOk P g SP) (hG : GOk P g) (fuel : Nat) (c : Sp) (args : List AV) (hr : sigOk c.toSig = true) (hargs : packA c.grp (pushK c.args (sG gl)).1 = some args)
  (hpg : ∀ m, forallF c.args c.spec fun r => r.1 m → GlobsAt m gl)
  (h : ∀ m, allK c.args (pe0 m) c.spec fun pe r => r.1 m → preSat (needs fs) pe fun pe => Sat SP (splitL (fun s => (ev g fuel (.call [] c.fn (args.map (nrmA s.know))) s).bind frzOut) (learnL fs (pushK c.args (sG gl)).2) cs) pe (resK c.toSig r.2)) : SpOk P c := by
 simp only [sigOk, Bool.and_eq_true] at hr
 intro m w ys xs hm hpk hpre
 have hglob : GlobsAt m gl := by
  obtain ⟨r, h1, h2⟩ := argIs_all _ _ _ (hpg m) hpre
  exact h1 h2
 have hself : ∀ {R : Type} {K : R → Prop} (ks : List Kd) (f : FnT ks R) (vs : List Value), argIs ks f vs K → argIs ks f vs (fun r => K r ∧ ∀ K' : R → Prop, K' r → argIs ks f vs K') := by
  intro R K ks
  induction ks with
  | nil => intro f vs h; cases vs <;> first | exact ⟨h, fun K' hk => hk⟩ | exact h.elim
  | cons k ks ih =>
   intro f vs h
   cases vs with
   | nil => cases k <;> exact h.elim
   | cons v vs =>
    cases k with
    | i k => cases v <;> first | exact ⟨h.1, h.2.1, argIs_mono (fun r hr => ⟨hr.1, fun K' hk => ⟨h.1, h.2.1, hr.2 K' hk⟩⟩) _ _ _ (ih _ _ h.2.2)⟩ | exact h.elim
    | b => cases v <;> first | exact ih _ _ h | exact h.elim
    | s => cases v <;> first | exact ih _ _ h | exact h.elim
    | r => exact h.elim
    | v => exact ⟨h.1, argIs_mono (fun r hr => ⟨hr.1, fun K' hk => ⟨h.1, hr.2 K' hk⟩⟩) _ _ _ (ih _ _ h.2)⟩
    | sl => cases v <;> first | exact ⟨h.1, argIs_mono (fun r hr => ⟨hr.1, fun K' hk => ⟨h.1, hr.2 K' hk⟩⟩) _ _ _ (ih _ _ h.2)⟩ | exact h.elim
 have hh := argIs_vars (P := P) (B := w) (w := w) c.args ys (vG gl m) (sG gl) c.spec (relG hgl hm hglob) (hself _ _ _ hpre) (h m)
 refine hh.elim fun pe hh => hh.elim fun r hh => ?_
 obtain ⟨h1, ⟨h2, hback⟩, h3⟩ := hh
 obtain ⟨l, e1, e2⟩ := packA_of hpk (noE_concL (V := (vG gl m).at pe) h3.vals rfl)
 rw [hargs] at e1; cases e1
 obtain ⟨hrel0, h1''⟩ := needs_ok fs _ h3.rel (h1 h2)
 obtain ⟨s', hrel, h1'⟩ := splitL_ok cs _ hrel0 h1''
 refine ev_calls hS hG fuel hrel (nrmAL_ok hrel.know e2) (Sat_bind _ _ _ _ h1') (fun pe' o ho => ?_)
 cases o with
 | code e a s => exact ho.elim
 | again vs => exact ho.elim
 | err k => exact ho.elim
 | val v s =>
  refine ⟨v, s, rfl, fun V0 x w' k1' k2 k3' k4' => ?_⟩
  subst k2
  simp only [frzOut] at ho
  rcases hfz : frzS (leavesA v) s with ⟨pf, sf⟩
  rw [hfz] at ho
  simp only at ho
  obtain ⟨pef, uf, ho, k3, _⟩ := frzS_ok k3' hfz _ (Sat_preT ho)
  have k4 := conc_mono (ext_at uf) _ _ k4'
  have k1 := k1'.trans (ext_at uf)
  generalize hV' : V0.at pef = V' at k3 k4 k1
  have hpe : V'.toPE = pef := by rw [← hV']; rfl
  subst hpe
  simp only [Sat, resK] at ho
  split at ho
  ·rename_i fl hfl
   obtain ⟨ws, f1, f2⟩ := appK_arg c.res _ _ (kOk_spec hr.1) ho
   obtain ⟨rs', g1, g2⟩ := retOf_parts (ys := ys) (by intro e; rw [e] at hr; simp at hr) k4 hfl (noE_concL f1 rfl)
   refine ⟨V'.mem, ws, rs', by rw [g2], g1, k3.below, fun b o hb => k1.up.mem b o (h3.up.mem b o hb), fun b o hb => ⟨(k3.mem b o hb).1, ?_⟩, hback _ f2⟩
   rcases k3.memB b o hb with q | q
   ·left
    rw [show V'.mem0 = pe.mem0 from k1.up.mem0, h3.up.mem0] at q
    exact q
   ·exact .inr q
  ·exact ho.elim
theorem con_okF (gl : List (Nat × List AV)) (fs : List BE) (hgl : gOk gl = true) {g : G} {SP : Nat → Option Sp} (hS : SpsOk P g SP) (hG : GOk P g) (fuel : Nat) (c : Sp) (args : List AV) (hr : sigOk c.toSig = true) (hargs : packA c.grp (pushK c.args (sG gl)).1 = some args)
  (hpg : ∀ m, forallF c.args c.spec fun r => r.1 m → GlobsAt m gl)
  (h : ∀ m, allK c.args (pe0 m) c.spec fun pe r => r.1 m → preSat (needs fs) pe fun pe => Sat SP (ev g fuel (.call [] c.fn args) (learnL fs (pushK c.args (sG gl)).2)) pe (resK c.toSig r.2)) : SpOk P c :=
 con_okC gl fs [] hgl hS hG fuel c args hr hargs hpg h
theorem con_okG (gl : List (Nat × List AV)) (hgl : gOk gl = true) {g : G} {SP : Nat → Option Sp} (hS : SpsOk P g SP) (hG : GOk P g) (fuel : Nat) (c : Sp) (args : List AV) (hr : sigOk c.toSig = true) (hargs : packA c.grp (pushK c.args (sG gl)).1 = some args)
  (hpg : ∀ m, forallF c.args c.spec fun r => r.1 m → GlobsAt m gl)
  (h : ∀ m, allK c.args (pe0 m) c.spec fun pe r => r.1 m → Sat SP (ev g fuel (.call [] c.fn args) (pushK c.args (sG gl)).2) pe (resK c.toSig r.2)) : SpOk P c :=
 con_okF gl [] hgl hS hG fuel c args hr hargs hpg h
end
end Go.Proofs.YtjabmipkllkfbaaGreatDoor.Vc
