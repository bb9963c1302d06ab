/-
  The engine is sound, 4: operations that only compute (operators, parts, slices).
-/
import Derived.Test.YtfpfagmmdiohbaaGreatDoorEvS3
import Derived.Laws.Tables
set_option linter.unusedVariables false
set_option linter.unusedSimpArgs false
namespace Go.Proofs.YtfpfagmmdiohbaaGreatDoor.Ev
open Go.RowKit

section
variable {P : Program} {g : G} {V : Env}

theorem eqGuard_no (op : BinOp) (t : TypeId) (x y : Operand) (a b : Value) (w : World) (h1 : ∀ cs ds, a = .agg cs → b = .agg ds → False) (h2 : a = .nilIface → b = .nilIface → False) : (eqGuard op t x y a b).run P w = .ok () w := by
  have key : ∀ (X Y : Sem Unit), (match a, b with
      | .nilIface, .nilIface => X
      | .agg _, .agg _ => Y
      | _, _ => pure ()).run P w = .ok () w := by
    intro X Y
    split
    · exact (h2 rfl rfl).elim
    · exact (h1 _ _ rfl rfl).elim
    · rfl
  cases op <;> first | rfl | exact key _ _

theorem intOp_ok (hG : GOk P g V.σ) (op : BinOp) (t : TypeId) (k : IntKind) (x y : IE) (v : AV) (h : intOp g.know op k x y = some v) :
    ∃ R, v.conc V = some R ∧ ∀ w, (binOp op t (.int k (x.val V.σ)) (.int k (y.val V.σ))).run P w = .ok R w := by
  have hK := hG.know
  cases op <;> simp only [intOp] at h <;> try (cases h; done)
  · -- add
    split at h
    · rename_i e he; cases h
      refine ⟨_, rfl, fun w => ?_⟩
      rw [wrapE_ok hK _ _ _ he, addE_val]; simp [binOp, Op.intArith]
    · cases h
  · split at h
    · rename_i e he; cases h
      refine ⟨_, rfl, fun w => ?_⟩
      rw [wrapE_ok hK _ _ _ he, subE_val]; simp [binOp, Op.intArith]
    · cases h
  · split at h
    · rename_i a b ha hb; cases h
      rw [litOf_some V.σ ha, litOf_some V.σ hb]
      exact ⟨_, rfl, fun w => by simp [binOp, Op.intArith, IE.val]⟩
    · cases h
  · split at h
    · rename_i a b ha hb
      cases c : ieq b 0 with
      | true => rw [c] at h; cases h
      | false =>
        rw [c] at h; cases h
        rw [litOf_some V.σ ha, litOf_some V.σ hb]
        refine ⟨_, rfl, fun w => ?_⟩
        rw [ieq_eq] at c
        have hb0 : b ≠ 0 := by simpa using c
        simp [binOp, Op.intDiv, IE.val, hb0]
    · cases h
  · split at h
    · rename_i a b ha hb
      cases c : ieq b 0 with
      | true => rw [c] at h; cases h
      | false =>
        rw [c] at h; cases h
        rw [litOf_some V.σ ha, litOf_some V.σ hb]
        refine ⟨_, rfl, fun w => ?_⟩
        rw [ieq_eq] at c
        have hb0 : b ≠ 0 := by simpa using c
        simp [binOp, Op.intDiv, IE.val, hb0]
    · cases h
  all_goals skip
  · -- and
    split at h
    · rename_i a b ha hb; cases h
      rw [litOf_some V.σ ha, litOf_some V.σ hb]
      refine ⟨_, rfl, fun w => ?_⟩
      simp only [binOp, ne_eq, not_true, if_false, Op.intBits, IE.val, Sem.run_pure]
      rfl
    · cases h
  · split at h
    · rename_i a b ha hb; cases h
      rw [litOf_some V.σ ha, litOf_some V.σ hb]
      refine ⟨_, rfl, fun w => ?_⟩
      simp only [binOp, ne_eq, not_true, if_false, Op.intBits, IE.val, Sem.run_pure]
      rfl
    · cases h
  · split at h
    · rename_i a b ha hb; cases h
      rw [litOf_some V.σ ha, litOf_some V.σ hb]
      refine ⟨_, rfl, fun w => ?_⟩
      simp only [binOp, ne_eq, not_true, if_false, Op.intBits, IE.val, Sem.run_pure]
      rfl
    · cases h
  · split at h
    · rename_i a b ha hb; cases h
      rw [litOf_some V.σ ha, litOf_some V.σ hb]
      refine ⟨_, rfl, fun w => ?_⟩
      simp only [binOp, ne_eq, not_true, if_false, Op.intBits, IE.val, Sem.run_pure]
      rw [BitVec.toNat_and, BitVec.toNat_not]
      rfl
    · cases h
  all_goals
    (split at h
     · rename_i b hb; cases h
       refine ⟨_, rfl, fun w => ?_⟩
       first
         | (have := leE_ok hK _ _ _ hb; cases b <;> simp at this <;> simp [binOp, Op.intCmp] <;> omega)
         | (have := eqE_ok hK _ _ _ hb; cases b <;> simp at this <;> simp [binOp, Op.intCmp] <;> omega)
     · cases h)

theorem shiftOp_ok (op : BinOp) (t : TypeId) (k k' : IntKind) (x y : IE) (v : AV) (ho : op = .shl ∨ op = .shr) (h : shiftOp op k x y = some v) :
    ∃ R, v.conc V = some R ∧ ∀ w, (binOp op t (.int k (x.val V.σ)) (.int k' (y.val V.σ))).run P w = .ok R w := by
  unfold shiftOp at h
  split at h
  · rename_i a b ha hb
    cases c : ile 0 b with
    | false => rw [c] at h; cases h
    | true =>
      rw [c] at h; simp only [cond_true] at h
      rw [ile_eq] at c
      have hb0 : ¬ b < 0 := by simp at c; omega
      rw [litOf_some V.σ ha, litOf_some V.σ hb]
      rcases ho with rfl | rfl
      · cases h
        refine ⟨_, rfl, fun w => ?_⟩
        simp [binOp, Op.shift, IE.val, hb0]
      · cases h
        refine ⟨_, rfl, fun w => ?_⟩
        simp [binOp, Op.shift, IE.val, hb0]
  · cases h

theorem strOp_ok (op : BinOp) (t : TypeId) (a b : List UInt8) (v : AV) (h : strOp op a b = some v) :
    ∃ R, v.conc V = some R ∧ ∀ w, (binOp op t (.string ⟨a.toArray⟩) (.string ⟨b.toArray⟩)).run P w = .ok R w := by
  have e1 := toList_mk a
  have e2 := toList_mk b
  cases op <;> simp only [strOp] at h <;> try (cases h; done)
  · cases c : Nat.ble (Nat.add (llen a) (llen b)) 9223372036854775807 with
    | false => rw [c] at h; cases h
    | true =>
      rw [c] at h; cases h
      refine ⟨_, rfl, fun w => ?_⟩
      rw [llen_eq, llen_eq] at c
      have hc : a.length + b.length ≤ 9223372036854775807 := by simpa using c
      have hs : ¬ ((((⟨a.toArray⟩ : ByteArray).size + (⟨b.toArray⟩ : ByteArray).size : Nat) : Int) > IntKind.i64.max) := by
        have s1 : (⟨a.toArray⟩ : ByteArray).size = a.length := by simp [ByteArray.size]
        have s2 : (⟨b.toArray⟩ : ByteArray).size = b.length := by simp [ByteArray.size]
        rw [s1, s2, IntKind.max_i64]; omega
      simp only [binOp, Op.stringOp, Sem.run_ite, if_neg hs, Sem.run_pure]
      congr 2
  · cases h
    refine ⟨_, rfl, fun w => ?_⟩
    have e3 : (a == b) = decide (a = b) := by rw [Bool.eq_iff_iff]; simp
    simp only [binOp, Op.stringOp, e1, e2, Sem.run_pure, bytesEq_eq, e3]
  · cases h
    refine ⟨_, rfl, fun w => ?_⟩
    have e3 : (a == b) = decide (a = b) := by rw [Bool.eq_iff_iff]; simp
    simp only [binOp, Op.stringOp, e1, e2, Sem.run_pure, bytesEq_eq, e3]

def plainV : Value → Bool
  | .bool _ | .pointer _ | .slice .. | .map _ | .func .. | .nilFunc | .agg _ => true
  | _ => false
theorem eqT_val {d : Nat} {t : TypeId} {x y : AV} {b : Bool} {X Y : Value} (h : eqT g d t x y = some b) (hX : x.conc V = some X) (hY : y.conc V = some Y) (h1 : ∀ k a k' c, x = .int k a → y = .int k' c → False) (h2 : ∀ a c, x = .str a → y = .str c → False) :
    plainV X = true ∧ plainV Y = true ∧ (∀ cs ds, X = .agg cs → Y = .agg ds → memN g.eqs t = true) := by
  cases d with
  | zero => simp [eqT] at h
  | succ d =>
    simp only [eqT] at h
    split at h
    · cases h
    · split at h
      · simp only [AV.conc] at hX hY; cases hX; cases hY; exact ⟨rfl, rfl, by simp⟩
      · exact (h1 _ _ _ _ rfl rfl).elim
      · exact (h2 _ _ rfl rfl).elim
      · simp only [AV.conc] at hX hY; cases hX; cases hY; exact ⟨rfl, rfl, by simp⟩
      · simp only [AV.conc] at hX; cases hX; obtain ⟨p, _, rfl⟩ := conc_ptr hY; exact ⟨rfl, rfl, by simp⟩
      · simp only [AV.conc] at hY; cases hY; obtain ⟨p, _, rfl⟩ := conc_ptr hX; exact ⟨rfl, rfl, by simp⟩
      · simp only [AV.conc] at hX hY; cases hX; cases hY; exact ⟨rfl, rfl, by simp⟩
      · simp only [AV.conc] at hX; cases hX; obtain ⟨p, _, rfl⟩ := conc_slice hY; exact ⟨rfl, rfl, by simp⟩
      · simp only [AV.conc] at hY; cases hY; obtain ⟨p, _, rfl⟩ := conc_slice hX; exact ⟨rfl, rfl, by simp⟩
      · simp only [AV.conc] at hX hY; cases hX; cases hY; exact ⟨rfl, rfl, by simp⟩
      · simp only [AV.conc] at hX; cases hX; obtain ⟨p, _, rfl⟩ := conc_map hY; exact ⟨rfl, rfl, by simp⟩
      · simp only [AV.conc] at hY; cases hY; obtain ⟨p, _, rfl⟩ := conc_map hX; exact ⟨rfl, rfl, by simp⟩
      · simp only [AV.conc] at hX hY; cases hX; cases hY; exact ⟨rfl, rfl, by simp⟩
      · simp only [AV.conc] at hX; cases hX; obtain ⟨_, _, _, _, rfl⟩ := conc_func hY; exact ⟨rfl, rfl, by simp⟩
      · simp only [AV.conc] at hY; cases hY; obtain ⟨_, _, _, _, rfl⟩ := conc_func hX; exact ⟨rfl, rfl, by simp⟩
      · rename_i xs ys _
        cases cm : memN g.eqs t with
        | false => rw [cm] at h; cases h
        | true =>
          obtain ⟨us, rfl, _⟩ := conc_agg hX
          obtain ⟨vs, rfl, _⟩ := conc_agg hY
          exact ⟨rfl, rfl, fun _ _ _ _ => rfl⟩
      · cases h
theorem binOp_eql {X Y : Value} (h1 : plainV X = true) (h2 : plainV Y = true) (t : TypeId) (w : World) {b : Bool} (h : (Op.equalIn 10000 t X Y).run P w = .ok b w) : (binOp .eql t X Y).run P w = .ok (.bool b) w := by
  have e : binOp .eql t X Y = (do pure (.bool (← Op.equal t X Y)) : Sem Value) := by
    cases X <;> simp [plainV] at h1 <;> cases Y <;> first | rfl | (simp [plainV] at h2)
  rw [e]; simp only [Op.equal, Op.maxDepth, Sem.run_bind, h, Result.andThen_ok, Sem.run_pure]
theorem binOp_neq {X Y : Value} (h1 : plainV X = true) (h2 : plainV Y = true) (t : TypeId) (w : World) {b : Bool} (h : (Op.equalIn 10000 t X Y).run P w = .ok b w) : (binOp .neq t X Y).run P w = .ok (.bool (!b)) w := by
  have e : binOp .neq t X Y = (do pure (.bool (!(← Op.equal t X Y))) : Sem Value) := by
    cases X <;> simp [plainV] at h1 <;> cases Y <;> first | rfl | (simp [plainV] at h2)
  rw [e]; simp only [Op.equal, Op.maxDepth, Sem.run_bind, h, Result.andThen_ok, Sem.run_pure]
theorem eqGuard_plain (hG : GOk P g V.σ) {X Y : Value} (op : BinOp) (t : TypeId) (xo yo : Operand) (h1 : plainV X = true) (h3 : ∀ cs ds, X = .agg cs → Y = .agg ds → memN g.eqs t = true) (w : World) : (eqGuard op t xo yo X Y).run P w = .ok () w := by
  by_cases hc : ∃ cs ds, X = .agg cs ∧ Y = .agg ds
  · obtain ⟨cs, ds, rfl, rfl⟩ := hc
    exact run_eqGuard_agg w op t xo yo cs ds (hG.eqs t (h3 _ _ rfl rfl)).2
  · exact eqGuard_no _ _ _ _ _ _ w (fun cs ds e1 e2 => hc ⟨cs, ds, e1, e2⟩) (fun e _ => by rw [e] at h1; simp [plainV] at h1)

/-- No integer and no string on both sides: '==' by the type. -/
theorem binA_ok (hG : GOk P g V.σ) {op : BinOp} {t : TypeId} {x y v : AV} {X Y : Value} (xo yo : Operand) (h : binA g op t x y = some v) (hX : x.conc V = some X) (hY : y.conc V = some Y) :
    ∃ R, v.conc V = some R ∧ ∀ w, (do eqGuard op t xo yo X Y; binOp op t X Y : Sem Value).run P w = .ok R w := by
  have sh : ∀ {R : Value}, (∀ w, (binOp op t X Y).run P w = .ok R w) → (∀ w, (eqGuard op t xo yo X Y).run P w = .ok () w) → ∀ w, (do eqGuard op t xo yo X Y; binOp op t X Y : Sem Value).run P w = .ok R w := by
    intro R h1 h2 w
    simp only [Sem.run_bind, h2, Result.andThen_ok, h1]
  unfold binA at h
  split at h
  · rename_i k a k' b
    simp only [AV.conc] at hX hY; cases hX; cases hY
    obtain ⟨R, h1, h2⟩ := shiftOp_ok (P := P) (V := V) .shl t k k' a b v (.inl rfl) h
    exact ⟨R, h1, sh h2 (fun w => eqGuard_no _ _ _ _ _ _ w (by simp) (by simp))⟩
  · rename_i k a k' b
    simp only [AV.conc] at hX hY; cases hX; cases hY
    obtain ⟨R, h1, h2⟩ := shiftOp_ok (P := P) (V := V) .shr t k k' a b v (.inr rfl) h
    exact ⟨R, h1, sh h2 (fun w => eqGuard_no _ _ _ _ _ _ w (by simp) (by simp))⟩
  · rename_i k a k' b _ _
    simp only [AV.conc] at hX hY; cases hX; cases hY
    cases ck : kindEq k k' with
    | false => rw [ck] at h; cases h
    | true =>
      rw [ck] at h; simp only [cond_true] at h
      have := kindEq_eq ck; subst this
      obtain ⟨R, h1, h2⟩ := intOp_ok hG op t k a b v h
      exact ⟨R, h1, sh h2 (fun w => eqGuard_no _ _ _ _ _ _ w (by simp) (by simp))⟩
  · rename_i a b
    simp only [AV.conc] at hX hY; cases hX; cases hY
    obtain ⟨R, h1, h2⟩ := strOp_ok (P := P) (V := V) op t a b v h
    exact ⟨R, h1, sh h2 (fun w => eqGuard_no _ _ _ _ _ _ w (by simp) (by simp))⟩
  · rename_i n1 n2 n3 n4
    split at h
    · rename_i b hb; cases h
      have hq := eqT_ok hG 100 t x y b X Y hb hX hY 10000 (by omega)
      obtain ⟨p1, p2, p3⟩ := eqT_val hb hX hY (by assumption) (by assumption)
      exact ⟨_, rfl, sh (fun w => binOp_eql p1 p2 t w (hq w)) (fun w => eqGuard_plain hG _ t xo yo p1 p3 w)⟩
    · cases h
  · split at h
    · rename_i b hb; cases h
      have hq := eqT_ok hG 100 t x y b X Y hb hX hY 10000 (by omega)
      obtain ⟨p1, p2, p3⟩ := eqT_val hb hX hY (by assumption) (by assumption)
      exact ⟨_, rfl, sh (fun w => binOp_neq p1 p2 t w (hq w)) (fun w => eqGuard_plain hG _ t xo yo p1 p3 w)⟩
    · cases h
  · cases h
end
end Go.Proofs.YtfpfagmmdiohbaaGreatDoor.Ev
