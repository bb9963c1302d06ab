/-
  The engine is sound, 10: maps; all operations.
-/
import Derived.Test.YtfpfagmmdiohbaaGreatDoorEvS9
import Derived.MapKept
set_option linter.unusedVariables false
set_option linter.unusedSimpArgs false
namespace Go.Proofs.YtfpfagmmdiohbaaGreatDoor.Ev
open Go.RowKit

section
variable {P : Program} {g : G} {V : Env} {s s' : S} {B w : World}

def FoundOk (V : Env) : Option (Nat × AV) → Option (Nat × Value) → Prop
  | none, none => True
  | some (i, v), some (j, x) => i = j ∧ v.conc V = some x
  | _, _ => False

theorem sameNow_ok {d : TypeDesc} {t : TypeId} {K K' : Value} {b c : Bool} (hu : P.underlying t = some d) (h : Instr.sameNow d K K' = some c) (hr : ∀ w, (Op.equal t K K').run P w = .ok b w) (w : World) : b = c := by
  have := hr w
  unfold Instr.sameNow at h
  split at h
  · rename_i k0 k a k' a'
    split at h
    · rename_i hk; subst hk; cases h
      simp only [Op.equal, Op.maxDepth] at this
      rw [run_equalIn_int w 9999 t _ _ _ _ hu] at this
      injection this with e _; exact e.symm
    · cases h
  · cases h
    simp only [Op.equal, Op.maxDepth] at this
    rw [run_equalIn_string w 9999 t _ _ hu] at this
    injection this with e _; rw [← e, beq_toListBytes]
  · cases h
    simp only [Op.equal, Op.maxDepth] at this
    rw [run_equalIn_bool w 9999 t _ _ hu] at this
    injection this with e _; exact e.symm
  · cases h

theorem findE_ok (hG : GOk P g V.σ) {t : TypeId} {k : AV} {K : Value} (hK : k.conc V = some K) : ∀ (es : List (AV × AV × Nat)) (ms : List MapEntry) (i : Nat) (r : Option (Nat × AV)), EntOk V es ms → findE g t k es i = some r →
    (∃ r', FoundOk V r r' ∧ ∀ w, (Instr.findAsking t K ms i).run P w = .ok r' w) ∧ ∀ d r', P.underlying t = some d → Instr.findNow d K ms i = some r' → FoundOk V r r' := by
  intro es
  induction es with
  | nil =>
    intro ms i r hm h
    cases ms with
    | nil =>
      simp [findE] at h; subst h
      refine ⟨⟨none, trivial, fun w => rfl⟩, fun d r' _ h => ?_⟩
      simp [Instr.findNow] at h; subst h; trivial
    | cons m ms => exact hm.elim
  | cons e es ih =>
    intro ms i r hm h
    obtain ⟨k', v, b⟩ := e
    cases ms with
    | nil => exact hm.elim
    | cons m ms =>
      obtain ⟨h1, h2, h3, h4⟩ := hm
      simp only [findE, keyEq] at h
      cases hq : eqT g 100 t k k' with
      | none => rw [hq] at h; cases h
      | some q =>
        have heq : ∀ w, (Op.equal t K m.key).run P w = .ok q w := eqT_ok hG 100 t k k' q K m.key hq hK h1 10000 (by omega)
        rw [hq] at h
        cases q with
        | true =>
          simp only [Option.some.injEq] at h; subst h
          refine ⟨⟨some (i, m.val), ⟨rfl, h2⟩, fun w => ?_⟩, fun d r' hd hn => ?_⟩
          · simp only [Instr.findAsking, Sem.run_bind, heq, Result.andThen_ok, if_true, Sem.run_pure]
          · simp only [Instr.findNow] at hn
            cases hs : Instr.sameNow d K m.key with
            | none => rw [hs] at hn; cases hn
            | some c =>
              have := sameNow_ok hd hs heq default
              subst this
              rw [hs] at hn; simp only [Option.some.injEq] at hn; subst hn
              exact ⟨rfl, h2⟩
        | false =>
          simp only at h
          obtain ⟨⟨r', k1, k2⟩, k3⟩ := ih ms (i + 1) r h4 h
          refine ⟨⟨r', k1, fun w => ?_⟩, fun d r'' hd hn => ?_⟩
          · simp only [Instr.findAsking, Sem.run_bind, heq, Result.andThen_ok, Bool.false_eq_true, if_false]
            exact k2 w
          · simp only [Instr.findNow] at hn
            cases hs : Instr.sameNow d K m.key with
            | none => rw [hs] at hn; cases hn
            | some c =>
              have := sameNow_ok hd hs heq default
              subst this
              rw [hs] at hn
              exact k3 d r'' hd hn

theorem run_findKey (hG : GOk P g V.σ) {t : TypeId} {d : TypeDesc} {k : AV} {K : Value} (hK : k.conc V = some K) (hu : P.underlying t = some d) {es : List (AV × AV × Nat)} {ms : List MapEntry} {r : Option (Nat × AV)} (hm : EntOk V es ms) (h : findE g t k es 0 = some r) :
    ∃ r', FoundOk V r r' ∧ ∀ w, (Instr.findKey t K ms).run P w = .ok r' w := by
  obtain ⟨⟨r', k1, k2⟩, k3⟩ := findE_ok hG hK es ms 0 r hm h
  cases hn : Instr.findNow d K ms 0 with
  | some r'' =>
    refine ⟨r'', k3 d r'' hu hn, fun w => ?_⟩
    simp only [Instr.findKey, Sem.run_bind, run_underlying hu, Result.andThen_ok, hn, Sem.run_pure]
  | none =>
    refine ⟨r', k1, fun w => ?_⟩
    simp only [Instr.findKey, Sem.run_bind, run_underlying hu, Result.andThen_ok, hn]
    exact k2 w

theorem EntOk.len {es : List (AV × AV × Nat)} : ∀ {ms : List MapEntry}, EntOk V es ms → ms.length = es.length := by
  induction es with
  | nil => intro ms h; cases ms <;> first | rfl | exact h.elim
  | cons e es ih =>
    intro ms h
    cases ms with
    | nil => exact h.elim
    | cons m ms => obtain ⟨a, b, c⟩ := e; simp [ih h.2.2.2]
theorem EntOk.get {es : List (AV × AV × Nat)} : ∀ {ms : List MapEntry} {i : Nat} {e : AV × AV × Nat}, EntOk V es ms → es[i]? = some e → ∃ m, ms[i]? = some m ∧ e.1.conc V = some m.key ∧ e.2.1.conc V = some m.val ∧ e.2.2 = m.born := by
  induction es with
  | nil => intro ms i e _ h; simp at h
  | cons x es ih =>
    intro ms i e h he
    cases ms with
    | nil => exact h.elim
    | cons m ms =>
      obtain ⟨a, b, c⟩ := x
      cases i with
      | zero => simp at he; subst he; exact ⟨m, rfl, h.1, h.2.1, h.2.2.1⟩
      | succ i => simp at he; obtain ⟨m', k⟩ := ih h.2.2.2 he; exact ⟨m', by simpa using k⟩
theorem EntOk.push {es : List (AV × AV × Nat)} : ∀ {ms : List MapEntry} {k v : AV} {b : Nat} {m : MapEntry}, EntOk V es ms → k.conc V = some m.key → v.conc V = some m.val → b = m.born → EntOk V (es ++ [(k, v, b)]) (ms ++ [m]) := by
  induction es with
  | nil => intro ms k v b m h h1 h2 h3; cases ms <;> first | exact ⟨h1, h2, h3, trivial⟩ | exact h.elim
  | cons x es ih =>
    intro ms k v b m h h1 h2 h3
    cases ms with
    | nil => exact h.elim
    | cons y ms => obtain ⟨p, q, r⟩ := x; exact ⟨h.1, h.2.1, h.2.2.1, ih h.2.2.2 h1 h2 h3⟩
theorem EntOk.upd {es : List (AV × AV × Nat)} : ∀ {ms : List MapEntry} {i : Nat} {k v : AV} {K X : Value}, EntOk V es ms → k.conc V = some K → v.conc V = some X → EntOk V (updE es i k v) (ms.modify i fun e => { e with key := K, val := X }) := by
  induction es with
  | nil => intro ms i k v K X h _ _; cases ms <;> first | (simp [updE, EntOk]; done) | exact h.elim
  | cons x es ih =>
    intro ms i k v K X h h1 h2
    cases ms with
    | nil => exact h.elim
    | cons m ms =>
      obtain ⟨p, q, r⟩ := x
      cases i with
      | zero => simp only [updE, nbeq, decide_true, cond_true, List.modify_zero_cons]; exact ⟨h1, h2, h.2.2.1, h.2.2.2⟩
      | succ i =>
        have e : updE ((p, q, r) :: es) (i + 1) k v = (p, q, r) :: updE es i k v := by simp [updE, show Nat.sub (i + 1) 1 = i from rfl]
        rw [e, List.modify_succ_cons]
        exact ⟨h.1, h.2.1, h.2.2.1, ih h.2.2.2 h1 h2⟩
theorem EntOk.del {es : List (AV × AV × Nat)} : ∀ {ms : List MapEntry} {i : Nat}, EntOk V es ms → EntOk V (delE es i) (ms.eraseIdx i) := by
  induction es with
  | nil => intro ms i h; cases ms <;> first | (simp [delE, EntOk]; done) | exact h.elim
  | cons x es ih =>
    intro ms i h
    cases ms with
    | nil => exact h.elim
    | cons m ms =>
      obtain ⟨p, q, r⟩ := x
      cases i with
      | zero => simp only [delE, nbeq, decide_true, cond_true, List.eraseIdx_cons_zero]; exact h.2.2.2
      | succ i =>
        have e : delE ((p, q, r) :: es) (i + 1) = (p, q, r) :: delE es i := by simp [delE, show Nat.sub (i + 1) 1 = i from rfl]
        rw [e, List.eraseIdx_cons_succ]
        exact ⟨h.1, h.2.1, h.2.2.1, ih h.2.2.2⟩

theorem run_setObj_m {w : World} {r : Nat} {es : Array MapEntry} {c : Nat} (o : Obj) (hb : w.heap[r]? = some (.map es c)) : (setObj r o).run P w = .ok () { w with heap := w.heap.setIfInBounds r o } := by
  simp [setObj, Sem.run, hb]
theorem run_getObj_m {w : World} {r : Nat} {es : Array MapEntry} {c : Nat} (hb : w.heap[r]? = some (.map es c)) : (getObj r).run P w = .ok (.map es c) w := by
  simp [getObj, Sem.run, hb]

/-- A map's block is turned. -/
theorem turn_map (hR : Rel P V s B w) {id : Nat} {es es' : List (AV × AV × Nat)} {ms' : List MapEntry} {c c' : Nat} {p : Nat × Nat} (hid : id < big) (hb : s.heap.get id = some (.map es c)) (hp : V.E id = some p) (hm : EntOk V es' ms') :
    Rel P V { s with heap := Tr.set 64 s.heap id (.map es' c') } B { w with heap := w.heap.setIfInBounds p.1 (.map ms'.toArray c') } := by
  obtain ⟨q, hq, hB, _⟩ := hR.blk id _ hb
  rw [hp] at hq; cases hq
  obtain ⟨ms, _, k2⟩ := hB
  have hlt : p.1 < w.heap.size := (Array.getElem?_eq_some_iff.1 k2).1
  refine hR.turn (b' := .map es' c') hid rfl hb rfl rfl hp (fun k hk => ?_) (by simp) rfl rfl rfl ⟨ms', hm, ?_⟩
  · show (w.heap.setIfInBounds p.1 _)[k]? = _
    rw [Array.getElem?_setIfInBounds_ne (fun e => hk e.symm)]
  · show (w.heap.setIfInBounds p.1 _)[p.1]? = _
    simp [hlt]

theorem mapOf_ok (hR : Rel P V s B w) {x : AV} {X : Value} {es : List (AV × AV × Nat)} (h : mapOf s x = some es) (hX : x.conc V = some X) :
    (X = .map none ∧ es = []) ∨ ∃ r ms c, X = .map (some r) ∧ EntOk V es ms ∧ w.heap[r]? = some (.map ms.toArray c) := by
  unfold mapOf at h
  split at h
  · cases h; simp only [AV.conc] at hX; cases hX; exact .inl ⟨rfl, rfl⟩
  · rename_i id
    split at h
    · rename_i es' c hb; cases h
      obtain ⟨p, hp, rfl⟩ := conc_map hX
      obtain ⟨q, hq, hB, _⟩ := hR.blk id _ hb
      rw [hp] at hq; cases hq
      obtain ⟨ms, k1, k2⟩ := hB
      exact .inr ⟨p.1, ms, c, rfl, k1, k2⟩
    · cases h
  · cases h
end
end Go.Proofs.YtfpfagmmdiohbaaGreatDoor.Ev
