/-
  Drops as the law AuditMissing makes them: plain; The lists of drops that the law AuditMissing looks at: plain; Contracts, by their trees.
-/
import Derived.Test.YtjabmipkllkfbaaGreatDoorYP
import Derived.Test.YtjabmipkllkfbaaGreatDoorYN
import Derived.Test.YtjabmipkllkfbaaGreatDoorYQ
import Derived.Test.YtjabmipkllkfbaaGreatDoorYR
set_option linter.unusedVariables false
set_option linter.unusedSimpArgs false
namespace Go.Proofs.YtjabmipkllkfbaaGreatDoor.Vc
open As
def mE (a d : Int) : Ev := ⟨5, a, 0, d, 1, 0, 1, 0⟩
def isM (x : Ev) : Prop := ∃ a d : Int, x = mE a d ∧ 0 ≤ d ∧ d ≤ a ∧ a ≤ 100000
structure DL (l : List Ev) : Prop where
 m : ∀ x ∈ l, isM x
 up : ∀ (i j : Nat) (x y : Ev), j ≤ i → l[i]? = some x → l[j]? = some y → y.at_ ≤ x.at_
theorem isM.ok {x : Ev} (h : isM x) : EvOk x := by
 obtain ⟨a, d, rfl, h1, h2, h3⟩ := h
 have k0 : K.i64 0 := by constructor <;> decide
 have k1 : K.i64 1 := by constructor <;> decide
 have k5 : K.i64 5 := by constructor <;> decide
 have ka : K.i64 a := k64 (by omega) (by omega)
 have kd : K.i64 d := k64 (by omega) (by omega)
 exact ⟨k5, ka, k0, kd, k1, k0, k1, k0⟩
theorem isM.evP {x : Ev} (h : isM x) : evP x = 0 := by
 obtain ⟨a, d, rfl, h1, h2, h3⟩ := h
 have ht : timeB a = true := by simp [timeB]; omega
 have hd : timeB d = true := by simp [timeB]; omega
 have hu : usesK 5 = (true, true, false, false, true, 6) := by decide
 unfold As.evP
 simp only [mE, hu]
 rw [if_neg (by omega), if_neg (by rw [ht, hd]; simp), if_pos]
 simp [inU]
 omega
theorem DL.err {l : List Ev} (h : DL l) {i : Nat} {x : Ev} (hx : l[i]? = some x) : evErr 1 (l.take i) x = 0 := by
 have hm := h.m x (List.mem_of_getElem? hx)
 have hE := hm.evP
 have hi := (List.getElem?_eq_some_iff.1 hx).1
 obtain ⟨a, d, rfl, h1, h2, h3⟩ := hm
 have hB : backw (l.take i) (mE a d) = false := by
  unfold backw
  cases hy : (l.take i).getLast? with
  | none => rfl
  | some y =>
   obtain ⟨j, hj⟩ := List.getElem?_of_mem (List.mem_of_mem_getLast? hy)
   have hj' := (List.getElem?_eq_some_iff.1 hj).1
   rw [List.length_take] at hj'
   rw [List.getElem?_take_of_lt (by omega)] at hj
   have := h.up i j _ y (by omega) hx hj
   simp; exact this
 unfold evErr
 rw [if_neg (by rw [hE]; simp), if_neg (by show ¬ ((5 : Int) ≠ 6 ∧ (1 : Int) ≤ 0); decide), if_neg (by rw [hB]; simp)]
 unfold evRun
 rw [if_neg (by show ¬ (5 : Int) = 1; decide), if_neg (by show ¬ isEnd (mE a d) = true; simp [isEnd, mE])]
theorem dl_go : ∀ (r p : List Ev), (∀ (i : Nat) (x : Ev), r[i]? = some x → evErr 1 (p ++ r.take i) x = 0) → trcGo 1 p r = (0, 0) := by
 intro r
 induction r with
 | nil => intro p _; rfl
 | cons x r ih =>
  intro p h
  have h0 := h 0 x rfl
  simp only [List.take_zero, List.append_nil] at h0
  unfold trcGo
  rw [if_neg (by rw [h0]; simp)]
  refine ih (p ++ [x]) fun i y hy => ?_
  have := h (i + 1) y (by simpa using hy)
  simpa using this
theorem DL.trc {l : List Ev} (h : DL l) : trcE 1 l = (0, 0) := by
 unfold trcE
 rw [if_neg (by omega)]
 exact dl_go l [] fun i x hx => by simpa using h.err hx
def cntD (l : List Ev) (d : Int) : Int := ((l.filter fun x => decide (x.due = d)).length : Nat)
theorem cnt_snoc (l : List Ev) (x : Ev) (d : Int) : cntD (l ++ [x]) d = cntD l d + (if x.due = d then 1 else 0) := by
 unfold cntD
 rw [List.filter_append, List.length_append]
 by_cases h : x.due = d <;> simp [h]
theorem life_drop : ∀ (n : Nat) (l : List Ev), l.length = n → (∀ x ∈ l, isM x) → ∀ d, lifeOf l 0 d = ⟨cntD l d, cntD l d, 0⟩ := by
 intro n
 induction n with
 | zero => intro l h _ d; rw [List.length_eq_zero_iff.1 h]; rfl
 | succ n ih =>
  intro l h hm d
  rcases List.eq_nil_or_concat l with h0 | ⟨p, x, h0⟩
  ·rw [h0] at h; cases h
  ·rw [List.concat_eq_append] at h0
   subst h0
   rw [List.length_append] at h
   have hp := ih p (by simpa using h) (fun y hy => hm y (by simp [hy]))
   obtain ⟨a, d', rfl, _⟩ := hm x (by simp)
   rw [lifeOf_snoc, cnt_snoc]
   by_cases e : d' = d
   ·subst e
    rw [if_pos ⟨by show (5 : Int) ≤ 5 ∧ (5 : Int) ≠ 4; decide, rfl, rfl⟩, if_pos (show (mE a d').due = d' from rfl)]
    show lifeS (mE a d') (lifeOf p 0 d') = _
    rw [hp d']
    rfl
   ·rw [if_neg (fun g => e g.2.2.symm), if_neg (show ¬ (mE a d').due = d from e), hp d, Int.add_zero]
theorem DL.life {l : List Ev} (h : DL l) (d : Int) : lifeOf l 0 d = ⟨cntD l d, cntD l d, 0⟩ := life_drop _ l rfl h.m d
theorem DL.take {l : List Ev} (h : DL l) (i : Nat) : ∀ d, lifeOf (l.take i) 0 d = ⟨cntD (l.take i) d, cntD (l.take i) d, 0⟩ := life_drop _ _ rfl fun x hx => h.m x (List.mem_of_mem_take hx)
theorem cnt_zero {l : List Ev} {d : Int} : cntD l d = 0 ↔ ∀ x ∈ l, x.due ≠ d := by
 unfold cntD
 rw [Int.natCast_eq_zero, List.length_eq_zero_iff, List.filter_eq_nil_iff]
 simp
theorem cnt_nn (l : List Ev) (d : Int) : 0 ≤ cntD l d := Int.natCast_nonneg _
theorem ix_mem : ∀ (B : List Bool) (i k : Nat), k ∈ idxs B i ↔ ∃ j, k = i + j ∧ B[j]? = some true := by
 intro B
 induction B with
 | nil => intro i k; simp [idxs]
 | cons b B ih =>
  intro i k
  have hi : (∃ j, k = i + j ∧ (b :: B)[j]? = some true) ↔ (k = i ∧ b = true) ∨ ∃ j, k = i + 1 + j ∧ B[j]? = some true := by
   constructor
   ·rintro ⟨j, rfl, hj⟩
    cases j with
    | zero => exact .inl ⟨rfl, by simpa using hj⟩
    | succ j => exact .inr ⟨j, by omega, by simpa using hj⟩
   ·rintro (⟨rfl, rfl⟩ | ⟨j, rfl, hj⟩)
    ·exact ⟨0, rfl, rfl⟩
    ·exact ⟨j + 1, by omega, by simpa using hj⟩
  rw [hi, ← ih]
  cases b <;> simp [idxs]
theorem ix_up : ∀ (B : List Bool) (i : Nat), (idxs B i).Pairwise (· < ·) := by
 intro B
 induction B with
 | nil => intro i; exact List.Pairwise.nil
 | cons b B ih =>
  intro i
  cases b
  ·exact ih (i + 1)
  ·simp only [idxs, cond_true, List.pairwise_cons]
   refine ⟨fun k hk => ?_, ih (i + 1)⟩
   obtain ⟨j, rfl, _⟩ := (ix_mem B (i + 1) k).1 hk
   omega
theorem mk_mem {f : List Ev → Ev → Bool} {l : List Ev} {k : Nat} : k ∈ idxs (marks f l l.length) 0 ↔ ∃ x, l[k]? = some x ∧ f (l.take k) x = true := by
 rw [ix_mem]
 have hat : ∀ i, i < l.length → (marks f l l.length)[i]? = some (match l[i]? with | some x => f (l.take i) x | none => false) := fun i hi => by
  unfold marks
  rw [List.getElem?_map, List.getElem?_range hi]
  rfl
 constructor
 ·rintro ⟨j, e, hj⟩
  have hl := (List.getElem?_eq_some_iff.1 hj).1
  rw [marks_len] at hl
  obtain rfl : k = j := by omega
  rw [hat _ hl, List.getElem?_eq_getElem hl] at hj
  exact ⟨_, List.getElem?_eq_getElem hl, by simpa using hj⟩
 ·rintro ⟨x, hx, hf⟩
  have hl := (List.getElem?_eq_some_iff.1 hx).1
  exact ⟨k, by omega, by rw [hat _ hl, hx]; simp [hf]⟩
theorem mk_none {f : List Ev → Ev → Bool} {l : List Ev} (h : ∀ k x, l[k]? = some x → f (l.take k) x = false) : idxs (marks f l l.length) 0 = [] := by
 rw [List.eq_nil_iff_forall_not_mem]
 intro k hk
 obtain ⟨x, hx, hf⟩ := mk_mem.1 hk
 rw [h k x hx] at hf; cases hf
theorem mk_one {f : List Ev → Ev → Bool} {l : List Ev} {i : Nat} {x : Ev} (hx : l[i]? = some x) (hf : f (l.take i) x = true) (h : ∀ k y, k ≠ i → l[k]? = some y → f (l.take k) y = false) : idxs (marks f l l.length) 0 = [i] := by
 have h1 : i ∈ idxs (marks f l l.length) 0 := mk_mem.2 ⟨x, hx, hf⟩
 have h2 : ∀ k ∈ idxs (marks f l l.length) 0, k = i := fun k hk => by
  obtain ⟨y, hy, hg⟩ := mk_mem.1 hk
  rcases Nat.decEq k i with e | e
  ·rw [h k y e hy] at hg; cases hg
  ·exact e
 have h3 := ix_up (marks f l l.length) 0
 generalize idxs (marks f l l.length) 0 = L at h1 h2 h3
 match L, h1, h2, h3 with
 | [], h1, _, _ => cases h1
 | [y], _, h2, _ => rw [h2 y (by simp)]
 | y :: y' :: L, _, h2, h3 =>
  have e1 := h2 y (by simp)
  have e2 := h2 y' (by simp)
  have := (List.pairwise_cons.1 h3).1 y' (by simp)
  omega
theorem DL.twi {l : List Ev} (h : DL l) {k : Nat} {x : Ev} (hx : l[k]? = some x) : twiF (l.take k) x = true ↔ ∃ j y, j < k ∧ l[j]? = some y ∧ y.due = x.due := by
 obtain ⟨a, d, rfl, _⟩ := h.m x (List.mem_of_getElem? hx)
 have e : twiF (l.take k) (mE a d) = decide (0 < cntD (l.take k) d) := by
  unfold twiF
  show ((decide ((5 : Int) = 1) || decide ((5 : Int) = 5)) && (decide (0 < (lifeOf (l.take k) 0 d).e) || (decide (0 < (lifeOf (l.take k) 0 d).u) || (decide (0 < (lifeOf (l.take k) 0 d).b) && (decide ((5 : Int) = 1) && decide ((1 : Int) = 1)))))) = _
  rw [h.take k d]
  simp
 rw [e, decide_eq_true_eq]
 have hz := cnt_zero (l := l.take k) (d := d)
 have hn := cnt_nn (l.take k) d
 constructor
 ·intro hp
  rcases Classical.em (∃ j y, j < k ∧ l[j]? = some y ∧ y.due = (mE a d).due) with g | g
  ·exact g
  ·exfalso
   have : cntD (l.take k) d = 0 := hz.2 fun y hy e => by
    obtain ⟨j, hj⟩ := List.getElem?_of_mem hy
    have hj' := (List.getElem?_eq_some_iff.1 hj).1
    rw [List.length_take] at hj'
    rw [List.getElem?_take_of_lt (by omega)] at hj
    exact g ⟨j, y, by omega, hj, e⟩
   omega
 ·rintro ⟨j, y, hj, hy, e⟩
  rcases Int.lt_or_eq_of_le hn with g | g
  ·exact g
  ·exfalso
   refine hz.1 g.symm y ?_ e
   have : (l.take k)[j]? = some y := by rw [List.getElem?_take_of_lt hj]; exact hy
   exact List.mem_of_getElem? this
theorem DL.miss {l : List Ev} (h : DL l) {J : JobR} {z d : Int} : missP J z l d ↔ evIsP J.s J.t J.u d = true ∧ d + J.pol.dead < z ∧ ∀ x ∈ l, x.due ≠ d := by
 unfold missP
 rw [h.life d]
 exact Iff.intro (fun g => ⟨g.1, g.2.1, cnt_zero.1 g.2.2⟩) (fun g => ⟨g.1, g.2.1, cnt_zero.2 g.2.2⟩)
def jobM (p D : Int) (n : Nat) : JobR := ⟨[97], 2, 0, 0, 0, 0, 0, 0, false, false, 0, 1000 + p, p, (n : Int), [], ⟨1, 0, 0, D, 0, 0, ⟨0, 0⟩, ⟨0, 0, 0⟩, ⟨0, 0, 0, 0⟩⟩⟩
structure MisR (p D z : Int) (n : Nat) : Prop where
 hp : 2 ≤ p ∧ p ≤ 17
 hD : 0 ≤ D ∧ D ≤ 63
 hn : 1 ≤ n ∧ n ≤ 20
 hz : 1000 + (n : Int) * p ≤ z ∧ z ≤ 1000 + (n : Int) * p + 99
section
variable {p D z : Int} {n : Nat}
theorem MisR.ev (h : MisR p D z n) : EvJob (jobM p D n) := by
 obtain ⟨⟨p1, p2⟩, ⟨d1, d2⟩, ⟨n1, n2⟩, _⟩ := h
 exact ⟨rfl, rfl, rfl, rfl, rfl, rfl, rfl, rfl, rfl, rfl, rfl, by show 0 ≤ 1000 + p ∧ 1000 + p ≤ _; omega, by show 1 ≤ p ∧ p ≤ _; omega, by show 0 ≤ (n : Int) ∧ (n : Int) ≤ _; omega, rfl, by show 0 ≤ D ∧ D ≤ _; omega⟩
theorem MisR.job (h : MisR p D z n) : JobOk (jobM p D n) := by
 obtain ⟨⟨p1, p2⟩, ⟨d1, d2⟩, ⟨n1, n2⟩, _⟩ := h
 have k0 : K.i64 0 := by constructor <;> decide
 have u0 : Ku 0 := by constructor <;> decide
 constructor
 case name => show 1 ≤ _; omega
 case skip => rfl
 case k => exact k64 (by show _ ≤ (2 : Int); omega) (by show (2 : Int) ≤ _; omega)
 case s => exact k64 (by show _ ≤ 1000 + p; omega) (by show 1000 + p ≤ _; omega)
 case t => exact k64 (by show _ ≤ p; omega) (by show p ≤ _; omega)
 case u => exact k64 (by show _ ≤ (n : Int); omega) (by show (n : Int) ≤ _; omega)
 case cap => exact k64 (by show _ ≤ (1 : Int); omega) (by show (1 : Int) ≤ _; omega)
 case dead => exact k64 (by show _ ≤ D; omega) (by show D ≤ _; omega)
 all_goals first | exact k0 | exact u0
theorem MisR.cfg (h : MisR p D z n) : cfgE 1 10 10 60 0 0 [jobM p D n] = 0 := by
 obtain ⟨⟨p1, p2⟩, ⟨d1, d2⟩, ⟨n1, n2⟩, _⟩ := h
 have h1 : planJ (jobM p D n) = 0 := by
  show planE 2 0 0 0 0 0 0 false false 0 (1000 + p) p (n : Int) [] = 0
  unfold planE
  rw [if_pos (.inr (.inr ⟨rfl, ⟨rfl, rfl, rfl, rfl, rfl, rfl, rfl, rfl⟩, rfl, by unfold evyE; rw [if_neg (by omega)], by decide⟩))]
 have h2 : polP (jobM p D n).pol = 0 := by
  show firstE [ruleE [inB 1 1 1000, inB 0 0 100, inB 0 0 spanM, inB D 0 spanM], misP 0 0, limP ⟨0, 0⟩, brkP ⟨0, 0, 0⟩, retP_ ⟨0, 0, 0, 0⟩] 0 = 0
  have e : inB D 0 spanM = true := by simp [inB, spanM]; omega
  rw [e]
  decide
 have a1 : ([jobM p D n] : List JobR).all (fun J => nameB J.name) = true := by
  have e1 : nameB (jobM p D n).name = true := by show nameB [97] = true; decide
  simp only [List.all_cons, List.all_nil, e1, Bool.and_self]
 have a2 : (List.range ([jobM p D n] : List JobR).length).any (dupAt (namesJ [jobM p D n])) = false := by
  show (List.range 1).any (dupAt [[97]]) = false
  decide
 have a3 : ([jobM p D n] : List JobR).all ruleJ = true := by
  have : ruleJ (jobM p D n) = true := by simp [ruleJ, h1, h2]
  simp only [List.all_cons, List.all_nil, this, Bool.and_self]
 unfold cfgE
 rw [if_neg (by show ¬ gloE 1 10 10 60 0 0 ≠ 0; decide), if_neg (by show ¬ 64 < 1; omega), if_neg (by rw [a1]; simp), if_neg (by rw [a2]; simp), if_neg (by rw [a3]; simp)]
def dS (p : Int) (i : Nat) : Int := 1000 + p + (i : Int) * p
theorem MisR.is (h : MisR p D z n) {d : Int} : evIsP (1000 + p) p (n : Int) d = true ↔ ∃ i : Nat, i < n ∧ d = dS p i := by
 obtain ⟨⟨p1, p2⟩, ⟨d1, d2⟩, ⟨n1, n2⟩, _⟩ := h
 have hn : evN (1000 + p) p (n : Int) = (n : Int) := by
  unfold evN
  rw [if_pos (by omega)]
  have : (20 : Int) ≤ (253402300799 - (1000 + p)) / p := Int.le_ediv_of_mul_le (by omega) (by omega)
  omega
 rw [evIs_iff (by omega) (by rw [hn]; omega), hn]
 constructor
 ·rintro ⟨k, h1, h2, h3⟩
  refine ⟨k.toNat, by omega, ?_⟩
  unfold dS
  rw [Int.toNat_of_nonneg h1]; exact h3.symm
 ·rintro ⟨i, h1, h2⟩
  exact ⟨(i : Int), by omega, by omega, h2.symm⟩
theorem dS_lt (hp : 2 ≤ p) {i j : Nat} (h : i < j) : dS p i + p ≤ dS p j := by
 unfold dS
 have : ((i : Int) + 1) * p ≤ (j : Int) * p := Int.mul_le_mul_of_nonneg_right (by omega) (by omega)
 rw [Int.add_mul, Int.one_mul] at this
 omega
theorem dS_inj (hp : 2 ≤ p) {i j : Nat} (h : dS p i = dS p j) : i = j := by
 rcases Nat.lt_trichotomy i j with g | g | g
 ·have := dS_lt hp g; omega
 ·exact g
 ·have := dS_lt hp g; omega
theorem MisR.rng (h : MisR p D z n) {i : Nat} (hi : i < n) : 1000 < dS p i ∧ dS p i ≤ z ∧ dS p i ≤ 1340 := by
 obtain ⟨⟨p1, p2⟩, ⟨d1, d2⟩, ⟨n1, n2⟩, z1, z2⟩ := h
 have h1 : ((i : Int) + 1) * p ≤ (n : Int) * p := Int.mul_le_mul_of_nonneg_right (by omega) (by omega)
 have h2 : (n : Int) * p ≤ 20 * p := Int.mul_le_mul_of_nonneg_right (by omega) (by omega)
 have h3 : 0 ≤ (i : Int) * p := Int.mul_nonneg (by omega) (by omega)
 rw [Int.add_mul, Int.one_mul] at h1
 unfold dS
 omega
def bE (p D : Int) (i : Nat) : Ev := mE (dS p i + D + 1) (dS p i)
def bL (p D : Int) (n : Nat) : List Ev := (List.range n).map (bE p D)
theorem bL_len : (bL p D n).length = n := by simp [bL]
theorem bL_get {i : Nat} (h : i < n) : (bL p D n)[i]? = some (bE p D i) := by
 unfold bL
 rw [List.getElem?_map, List.getElem?_range h]; rfl
theorem bL_some {i : Nat} {x : Ev} (h : (bL p D n)[i]? = some x) : i < n ∧ x = bE p D i := by
 have hi := (List.getElem?_eq_some_iff.1 h).1
 rw [bL_len] at hi
 rw [bL_get hi] at h; cases h
 exact ⟨hi, rfl⟩
theorem bL_succ : bL p D (n + 1) = bL p D n ++ [bE p D n] := by
 unfold bL
 rw [List.range_succ, List.map_append]; rfl
theorem MisR.isB (h : MisR p D z n) {i : Nat} (hi : i < n) : isM (bE p D i) := by
 have h1 := h.rng hi
 have h2 := h.hD
 exact ⟨_, _, rfl, by omega, by omega, by omega⟩
theorem MisR.bM (h : MisR p D z n) : ∀ x ∈ bL p D n, isM x := fun x hx => by
 obtain ⟨i, hi⟩ := List.getElem?_of_mem hx
 obtain ⟨h1, rfl⟩ := bL_some hi
 exact h.isB h1
theorem bE_up (hp : 2 ≤ p) {i j : Nat} (h : j ≤ i) : (bE p D j).at_ ≤ (bE p D i).at_ := by
 show dS p j + D + 1 ≤ dS p i + D + 1
 rcases Nat.lt_or_eq_of_le h with g | g
 ·have := dS_lt hp g; omega
 ·subst g; omega
end
end Go.Proofs.YtjabmipkllkfbaaGreatDoor.Vc
namespace Go.Proofs.YtjabmipkllkfbaaGreatDoor.Vc
open As
section
variable {p D z : Int} {n : Nat}
theorem wr_good (h : MisR p D z n) {i : Nat} (hi : i < n) (q : List Ev) : wrF (jobM p D n) 1000 z q (bE p D i) = false := by
 have h1 : evIsP (jobM p D n).s (jobM p D n).t (jobM p D n).u (bE p D i).due = true := h.is.2 ⟨i, hi, rfl⟩
 have h2 := h.rng hi
 unfold wrF
 rw [h1]
 show ((decide ((5 : Int) = 1) || decide ((5 : Int) = 5)) && (!true || (decide (dS p i ≤ 1000) || decide (z < dS p i)))) = false
 simp; omega
theorem wr_bad (h : MisR p D z n) {i : Nat} (a : Int) (q : List Ev) : wrF (jobM p D n) 1000 z q (mE a (dS p i - 1)) = true := by
 have h1 : evIsP (jobM p D n).s (jobM p D n).t (jobM p D n).u (mE a (dS p i - 1)).due = false := by
  cases c : evIsP (jobM p D n).s (jobM p D n).t (jobM p D n).u (mE a (dS p i - 1)).due with
  | false => rfl
  | true =>
   exfalso
   obtain ⟨j, hj, e⟩ := h.is.1 c
   have e : dS p i - 1 = dS p j := e
   have hp := h.hp.1
   rcases Nat.lt_trichotomy i j with g | g | g
   ·have := dS_lt hp g; omega
   ·subst g; omega
   ·have := dS_lt hp g; omega
 unfold wrF
 rw [h1]
 show ((decide ((5 : Int) = 1) || decide ((5 : Int) = 5)) && (!false || _)) = true
 simp
theorem due_rows {J : JobR} {a z : Int} {l : List Ev} {M : Bool} {W T : List Nat} (h1 : idxs (marks (wrF J a z) l l.length) 0 = W) (h2 : idxs (marks twiF l l.length) 0 = T) :
  dueR J a z l M = (flRow 5 W ++ flRow 6 T) ++ (if M = true then [.int .i64 7, .int .i64 0] else []) ∧ dueN J a z l M = (W.length + T.length) + (if M = true then 1 else 0) := by
 unfold dueR dueN
 rw [h1, h2]
 exact ⟨rfl, rfl⟩
theorem b_dl (h : MisR p D z n) : DL (bL p D n) := ⟨h.bM, fun i j x y hij hx hy => by
 obtain ⟨_, rfl⟩ := bL_some hx
 obtain ⟨_, rfl⟩ := bL_some hy
 exact bE_up h.hp.1 hij⟩
theorem c_whole (h : MisR p D z n) {M : Bool} (hM : M = true ↔ anyM (jobM p D n) 1000 z (bL p D n)) : dueR (jobM p D n) 1000 z (bL p D n) M = [] ∧ dueN (jobM p D n) 1000 z (bL p D n) M = 0 := by
 have hd := b_dl h
 have h1 : idxs (marks (wrF (jobM p D n) 1000 z) (bL p D n) (bL p D n).length) 0 = [] := mk_none fun k x hx => by
  obtain ⟨g, rfl⟩ := bL_some hx
  exact wr_good h g _
 have h2 : idxs (marks twiF (bL p D n) (bL p D n).length) 0 = [] := mk_none fun k x hx => by
  cases c : twiF ((bL p D n).take k) x with
  | false => rfl
  | true =>
   exfalso
   obtain ⟨j, y, hj, hy, e⟩ := (hd.twi hx).1 c
   obtain ⟨_, rfl⟩ := bL_some hx
   obtain ⟨_, rfl⟩ := bL_some hy
   have := dS_inj h.hp.1 (show dS p j = dS p k from e)
   omega
 have h3 : M = false := by
  cases M with
  | false => rfl
  | true =>
   exfalso
   obtain ⟨d, _, _, hm⟩ := hM.1 rfl
   obtain ⟨g1, _, g3⟩ := hd.miss.1 hm
   obtain ⟨i, hi, rfl⟩ := h.is.1 g1
   exact g3 _ (List.mem_of_getElem? (bL_get hi)) rfl
 obtain ⟨r1, r2⟩ := due_rows (M := M) h1 h2
 rw [r1, r2, h3]
 exact ⟨rfl, rfl⟩
def dL (p D : Int) (n i : Nat) : List Ev := (bL p D n).take i ++ (bL p D n).drop (i + 1)
theorem dL_some {i k : Nat} {x : Ev} (hi : i < n) (h : (dL p D n i)[k]? = some x) : ∃ j, j < n ∧ j ≠ i ∧ x = bE p D j ∧ j = (if k < i then k else k + 1) := by
 have ht : ((bL p D n).take i).length = i := by rw [List.length_take, bL_len]; omega
 unfold dL at h
 by_cases hk : k < i
 ·rw [List.getElem?_append_left (by omega), List.getElem?_take_of_lt hk] at h
  obtain ⟨g, e⟩ := bL_some h
  exact ⟨k, g, by omega, e, by rw [if_pos hk]⟩
 ·rw [List.getElem?_append_right (by omega), ht, List.getElem?_drop, show i + 1 + (k - i) = k + 1 by omega] at h
  obtain ⟨g, e⟩ := bL_some h
  exact ⟨k + 1, g, by omega, e, by rw [if_neg hk]⟩
theorem dL_mem {i j : Nat} (hi : i < n) (hj : j < n) (hne : j ≠ i) : bE p D j ∈ dL p D n i := by
 unfold dL
 rw [List.mem_append]
 by_cases h : j < i
 ·left
  have : ((bL p D n).take i)[j]? = some (bE p D j) := by rw [List.getElem?_take_of_lt h]; exact bL_get hj
  exact List.mem_of_getElem? this
 ·right
  have : ((bL p D n).drop (i + 1))[j - (i + 1)]? = some (bE p D j) := by rw [List.getElem?_drop, show i + 1 + (j - (i + 1)) = j by omega]; exact bL_get hj
  exact List.mem_of_getElem? this
theorem d_dl (h : MisR p D z n) {i : Nat} (hi : i < n) : DL (dL p D n i) := ⟨fun x hx => by
  obtain ⟨k, hk⟩ := List.getElem?_of_mem hx
  obtain ⟨j, hj, _, rfl, _⟩ := dL_some hi hk
  exact h.isB hj,
 fun a b x y hab hx hy => by
  obtain ⟨j, _, _, rfl, e⟩ := dL_some hi hx
  obtain ⟨j', _, _, rfl, e'⟩ := dL_some hi hy
  refine bE_up h.hp.1 ?_
  rw [e, e']; repeat' split
  all_goals omega⟩
theorem c_del (h : MisR p D z n) {i : Nat} (hi : i < n) {M : Bool} (hM : M = true ↔ anyM (jobM p D n) 1000 z (dL p D n i)) :
  (dS p i + D < z → dueR (jobM p D n) 1000 z (dL p D n i) M = flRow 7 [0] ∧ dueN (jobM p D n) 1000 z (dL p D n i) M = 1) ∧ (z ≤ dS p i + D → dueR (jobM p D n) 1000 z (dL p D n i) M = [] ∧ dueN (jobM p D n) 1000 z (dL p D n i) M = 0) := by
 have hd := d_dl h hi
 have h1 : idxs (marks (wrF (jobM p D n) 1000 z) (dL p D n i) (dL p D n i).length) 0 = [] := mk_none fun k x hx => by
  obtain ⟨j, g, _, rfl, _⟩ := dL_some hi hx
  exact wr_good h g _
 have h2 : idxs (marks twiF (dL p D n i) (dL p D n i).length) 0 = [] := mk_none fun k x hx => by
  cases c : twiF ((dL p D n i).take k) x with
  | false => rfl
  | true =>
   exfalso
   obtain ⟨k', y, hj, hy, e⟩ := (hd.twi hx).1 c
   obtain ⟨j, _, _, rfl, e1⟩ := dL_some hi hx
   obtain ⟨j', _, _, rfl, e2⟩ := dL_some hi hy
   have := dS_inj h.hp.1 (show dS p j' = dS p j from e)
   rw [e1, e2] at this
   split at this <;> split at this <;> omega
 have h3 : M = true ↔ dS p i + D < z := by
  rw [hM]
  constructor
  ·rintro ⟨d, _, _, hm⟩
   obtain ⟨g1, g2, g3⟩ := hd.miss.1 hm
   obtain ⟨j, hj, rfl⟩ := h.is.1 g1
   rcases Nat.decEq j i with e | e
   ·exact absurd rfl (g3 _ (dL_mem hi hj e))
   ·subst e; exact g2
  ·intro hlt
   have hr := h.rng hi
   refine ⟨dS p i, hr.1, hr.2.1, hd.miss.2 ⟨h.is.2 ⟨i, hi, rfl⟩, hlt, fun x hx e => ?_⟩⟩
   obtain ⟨k, hk⟩ := List.getElem?_of_mem hx
   obtain ⟨j, _, hne, rfl, _⟩ := dL_some hi hk
   exact hne (dS_inj h.hp.1 e)
 obtain ⟨r1, r2⟩ := due_rows (M := M) h1 h2
 rw [r1, r2]
 constructor
 ·intro hlt
  rw [h3.2 hlt]; exact ⟨rfl, rfl⟩
 ·intro hge
  have : M = false := by
   cases M with
   | false => rfl
   | true => have := h3.1 rfl; omega
  rw [this]; exact ⟨rfl, rfl⟩
def iL (p D : Int) (n i : Nat) (x : Ev) : List Ev := (bL p D n).take i ++ (x :: (bL p D n).drop i)
theorem iL_some {i k : Nat} {x y : Ev} (hi : i < n) (h : (iL p D n i x)[k]? = some y) : (k = i ∧ y = x) ∨ (k ≠ i ∧ ∃ j, j < n ∧ y = bE p D j ∧ j = (if k < i then k else k - 1)) := by
 have ht : ((bL p D n).take i).length = i := by rw [List.length_take, bL_len]; omega
 unfold iL at h
 rcases Nat.lt_trichotomy k i with hk | hk | hk
 ·rw [List.getElem?_append_left (by omega), List.getElem?_take_of_lt hk] at h
  obtain ⟨g, e⟩ := bL_some h
  exact .inr ⟨by omega, k, g, e, by rw [if_pos hk]⟩
 ·subst hk
  rw [List.getElem?_append_right (by omega), ht, Nat.sub_self] at h
  simp at h
  exact .inl ⟨rfl, h.symm⟩
 ·rw [List.getElem?_append_right (by omega), ht, show k - i = (k - i - 1) + 1 by omega, List.getElem?_cons_succ, List.getElem?_drop, show i + (k - i - 1) = k - 1 by omega] at h
  obtain ⟨g, e⟩ := bL_some h
  exact .inr ⟨by omega, k - 1, g, e, by rw [if_neg (by omega)]⟩
theorem iL_at {i : Nat} {x : Ev} (hi : i < n) : (iL p D n i x)[i]? = some x := by
 have ht : ((bL p D n).take i).length = i := by rw [List.length_take, bL_len]; omega
 unfold iL
 rw [List.getElem?_append_right (by omega), ht, Nat.sub_self]; rfl
theorem iL_next {i : Nat} {x : Ev} (hi : i < n) : (iL p D n i x)[i + 1]? = some (bE p D i) := by
 have ht : ((bL p D n).take i).length = i := by rw [List.length_take, bL_len]; omega
 unfold iL
 rw [List.getElem?_append_right (by omega), ht, show i + 1 - i = 0 + 1 by omega, List.getElem?_cons_succ, List.getElem?_drop]
 exact bL_get hi
theorem iL_mem {i j : Nat} {x : Ev} (hj : j < n) : bE p D j ∈ iL p D n i x := by
 unfold iL
 rw [List.mem_append, List.mem_cons]
 by_cases h : j < i
 ·left
  have : ((bL p D n).take i)[j]? = some (bE p D j) := by rw [List.getElem?_take_of_lt h]; exact bL_get hj
  exact List.mem_of_getElem? this
 ·right; right
  have : ((bL p D n).drop i)[j - i]? = some (bE p D j) := by rw [List.getElem?_drop, show i + (j - i) = j by omega]; exact bL_get hj
  exact List.mem_of_getElem? this
theorem i_dl (h : MisR p D z n) {i : Nat} (hi : i < n) {x : Ev} (hx : isM x) (ha : x.at_ = (bE p D i).at_) : DL (iL p D n i x) := ⟨fun y hy => by
  obtain ⟨k, hk⟩ := List.getElem?_of_mem hy
  rcases iL_some hi hk with ⟨_, rfl⟩ | ⟨_, j, hj, rfl, _⟩
  ·exact hx
  ·exact h.isB hj,
 fun a b u v hab hu hv => by
  have key : ∀ {k : Nat} {y : Ev}, (iL p D n i x)[k]? = some y → y.at_ = (bE p D (if k ≤ i then k else k - 1)).at_ := fun {k y} hk => by
   rcases iL_some hi hk with ⟨rfl, rfl⟩ | ⟨hne, j, hj, rfl, e⟩
   ·rw [if_pos (Nat.le_refl _)]; exact ha
   ·rw [e]
    by_cases g : k < i
    ·rw [if_pos g, if_pos (by omega)]
    ·rw [if_neg g, if_neg (by omega)]
  rw [key hu, key hv]
  refine bE_up h.hp.1 ?_
  repeat' split
  all_goals omega⟩
theorem i_miss (h : MisR p D z n) {i : Nat} {x : Ev} (hd : DL (iL p D n i x)) {M : Bool} (hM : M = true ↔ anyM (jobM p D n) 1000 z (iL p D n i x)) : M = false := by
 cases M with
 | false => rfl
 | true =>
  exfalso
  obtain ⟨d, _, _, hm⟩ := hM.1 rfl
  obtain ⟨g1, _, g3⟩ := hd.miss.1 hm
  obtain ⟨j, hj, rfl⟩ := h.is.1 g1
  exact g3 _ (iL_mem hj) rfl
theorem c_dup (h : MisR p D z n) {i : Nat} (hi : i < n) {M : Bool} (hM : M = true ↔ anyM (jobM p D n) 1000 z (iL p D n i (bE p D i))) :
  dueR (jobM p D n) 1000 z (iL p D n i (bE p D i)) M = flRow 6 [i + 1] ∧ dueN (jobM p D n) 1000 z (iL p D n i (bE p D i)) M = 1 := by
 have hd := i_dl h hi (h.isB hi) rfl
 have h1 : idxs (marks (wrF (jobM p D n) 1000 z) (iL p D n i (bE p D i)) (iL p D n i (bE p D i)).length) 0 = [] := mk_none fun k x hx => by
  rcases iL_some hi hx with ⟨_, rfl⟩ | ⟨_, j, g, rfl, _⟩
  ·exact wr_good h hi _
  ·exact wr_good h g _
 have key : ∀ {k : Nat} {y : Ev}, (iL p D n i (bE p D i))[k]? = some y → y = bE p D (if k ≤ i then k else k - 1) := fun {k y} hk => by
  rcases iL_some hi hk with ⟨rfl, rfl⟩ | ⟨hne, j, hj, rfl, e⟩
  ·rw [if_pos (Nat.le_refl _)]
  ·rw [e]
   by_cases g : k < i
   ·rw [if_pos g, if_pos (by omega)]
   ·rw [if_neg g, if_neg (by omega)]
 have h2 : idxs (marks twiF (iL p D n i (bE p D i)) (iL p D n i (bE p D i)).length) 0 = [i + 1] := by
  refine mk_one (iL_next hi) ((hd.twi (iL_next hi)).2 ⟨i, _, by omega, iL_at hi, rfl⟩) fun k y hk hy => ?_
  cases c : twiF ((iL p D n i (bE p D i)).take k) y with
  | false => rfl
  | true =>
   exfalso
   obtain ⟨k', y', hj, hy', e⟩ := (hd.twi hy).1 c
   rw [key hy, key hy'] at e
   have := dS_inj h.hp.1 (show dS p _ = dS p _ from e)
   split at this <;> split at this <;> omega
 obtain ⟨r1, r2⟩ := due_rows (M := M) h1 h2
 rw [r1, r2, i_miss h hd hM]
 exact ⟨rfl, rfl⟩
def wE (p D : Int) (i : Nat) : Ev := mE (dS p i + D + 1) (dS p i - 1)
theorem MisR.isW (h : MisR p D z n) {i : Nat} (hi : i < n) : isM (wE p D i) := by
 have h1 := h.rng hi
 have h2 := h.hD
 exact ⟨_, _, rfl, by omega, by omega, by omega⟩
theorem c_wro (h : MisR p D z n) {i : Nat} (hi : i < n) {M : Bool} (hM : M = true ↔ anyM (jobM p D n) 1000 z (iL p D n i (wE p D i))) :
  dueR (jobM p D n) 1000 z (iL p D n i (wE p D i)) M = flRow 5 [i] ∧ dueN (jobM p D n) 1000 z (iL p D n i (wE p D i)) M = 1 := by
 have hd := i_dl h hi (h.isW hi) rfl
 have h1 : idxs (marks (wrF (jobM p D n) 1000 z) (iL p D n i (wE p D i)) (iL p D n i (wE p D i)).length) 0 = [i] := by
  refine mk_one (iL_at hi) (wr_bad h _ _) fun k y hk hy => ?_
  rcases iL_some hi hy with ⟨g, _⟩ | ⟨_, j, g, rfl, _⟩
  ·exact absurd g hk
  ·exact wr_good h g _
 have h2 : idxs (marks twiF (iL p D n i (wE p D i)) (iL p D n i (wE p D i)).length) 0 = [] := mk_none fun k x hx => by
  cases c : twiF ((iL p D n i (wE p D i)).take k) x with
  | false => rfl
  | true =>
   exfalso
   have hp := h.hp.1
   have ne : ∀ j, dS p i - 1 ≠ dS p j := fun j e => by
    rcases Nat.lt_trichotomy i j with g | g | g
    ·have := dS_lt hp g; omega
    ·subst g; omega
    ·have := dS_lt hp g; omega
   obtain ⟨k', y, hj, hy, e⟩ := (hd.twi hx).1 c
   rcases iL_some hi hx with ⟨e1, rfl⟩ | ⟨e1, j, _, rfl, e2⟩
   ·rcases iL_some hi hy with ⟨e3, rfl⟩ | ⟨e3, j', _, rfl, e4⟩
    ·omega
    ·exact ne j' e.symm
   ·rcases iL_some hi hy with ⟨e3, rfl⟩ | ⟨e3, j', _, rfl, e4⟩
    ·exact ne j e
    ·have := dS_inj hp (show dS p j' = dS p j from e)
     rw [e2, e4] at this
     split at this <;> split at this <;> omega
 obtain ⟨r1, r2⟩ := due_rows (M := M) h1 h2
 rw [r1, r2, i_miss h hd hM]
 exact ⟨rfl, rfl⟩
theorem evRow_app2 : ∀ (l r : List Ev), evRow (l ++ r) = evRow l ++ evRow r := by
 intro l r
 induction l with
 | nil => rfl
 | cons x l ih => simp only [List.cons_append, evRow, ih, List.append_assoc]
theorem evRow_l8 : ∀ l : List Ev, (evRow l).length = l.length * 8 := by
 intro l
 induction l with
 | nil => rfl
 | cons x l ih => simp only [evRow, List.length_append, List.length_cons, ih]; show 8 + l.length * 8 = _; omega
theorem evRow_take (l : List Ev) {i : Nat} (hi : i ≤ l.length) : (evRow l).take (i * 8) = evRow (l.take i) := by
 have e : evRow l = evRow (l.take i) ++ evRow (l.drop i) := by rw [← evRow_app2, List.take_append_drop]
 have hl : (evRow (l.take i)).length = i * 8 := by rw [evRow_l8, List.length_take]; omega
 rw [e, ← hl, List.take_left]
theorem evRow_drop (l : List Ev) {i : Nat} (hi : i ≤ l.length) : (evRow l).drop (i * 8) = evRow (l.drop i) := by
 have e : evRow l = evRow (l.take i) ++ evRow (l.drop i) := by rw [← evRow_app2, List.take_append_drop]
 have hl : (evRow (l.take i)).length = i * 8 := by rw [evRow_l8, List.length_take]; omega
 rw [e, ← hl, List.drop_left]
theorem dL_row {i : Nat} (hi : i < n) : (evRow (bL p D n)).take (i * 8) ++ (evRow (bL p D n)).drop ((i + 1) * 8) = evRow (dL p D n i) := by
 rw [evRow_take _ (by rw [bL_len]; omega), evRow_drop _ (by rw [bL_len]; omega), ← evRow_app2]; rfl
theorem iL_row {i : Nat} (hi : i < n) (x : Ev) : (evRow (bL p D n)).take (i * 8) ++ (evCells x ++ (evRow (bL p D n)).drop (i * 8)) = evRow (iL p D n i x) := by
 rw [evRow_take _ (by rw [bL_len]; omega), evRow_drop _ (by rw [bL_len]; omega)]
 show _ = evRow (_ ++ (x :: _))
 rw [evRow_app2]; rfl
theorem dL_len {i : Nat} (hi : i < n) : (dL p D n i).length = n - 1 := by
 unfold dL; rw [List.length_append, List.length_take, List.length_drop, bL_len]; omega
theorem iL_len {i : Nat} (hi : i < n) (x : Ev) : (iL p D n i x).length = n + 1 := by
 unfold iL; rw [List.length_append, List.length_cons, List.length_take, List.length_drop, bL_len]; omega
end
end Go.Proofs.YtjabmipkllkfbaaGreatDoor.Vc
namespace Go.Proofs.YtjabmipkllkfbaaGreatDoor.Vc
open As
def trsEv : List (FuncId × Bool × TypeId) := [(8, false, 33), (12, true, 33)]
set_option maxRecDepth 20000 in
theorem trsEv_ok : ∀ f k e, trOf trsEv f = some (k, e) → EdOk Tryz.prog f k e := by
 intro f k e h
 simp only [trsEv, trOf] at h
 cases c1 : Nat.beq 8 f with
 | true =>
  rw [c1] at h; cases h
  have : 8 = f := by simpa using c1
  rw [← this]; exact del_ok
 | false =>
  rw [c1] at h
  simp only [cond_false] at h
  cases c2 : Nat.beq 12 f with
  | true =>
   rw [c2] at h; cases h
   have : 12 = f := by simpa using c2
   rw [← this]; exact ins_ok
  | false => rw [c2] at h; cases h
theorem rem_nm {k : IntKind} {x y : Int} (h0 : 0 ≤ x) : arithV BinOp.rem k x y = x % y := by
 show x.tmod y = x % y
 exact Int.tmod_eq_emod_of_nonneg h0
theorem evRow_1v : ∀ (l : List Ev) (u : Value), u ∈ evRow l → oneV u = some u := by
 intro l
 induction l with
 | nil => intro u h; cases h
 | cons x l ih =>
  intro u h
  simp only [evRow, List.mem_append] at h
  rcases h with h | h
  ·simp only [evCells, List.mem_cons, List.not_mem_nil, or_false] at h
   rcases h with rfl | rfl | rfl | rfl | rfl | rfl | rfl | rfl <;> rfl
  ·exact ih u h
theorem row_cells {m : Mem} {q : Option Addr} {l : List Ev} (h : RowM m q (evRow l)) (j : Nat) (v : Value) (hv : (evRow l)[j]? = some v) : cellI m q (0 + (j : Int)) = some v := by
 cases q with
 | none => rw [h.2 rfl] at hv; simp at hv
 | some q => exact cellI_to (rowAt_cell h.1 hv (evRow_1v l v (List.mem_of_getElem? hv))) (by omega)
section
variable {p D z : Int} {n : Nat}
theorem due_pre (h : MisR p D z n) {m : Mem} (gsp : Globs m glSp) (gmx : Globs m glMx) {q : Option Addr} (hj : JobsAt m q 1 [jobM p D n]) {l : List Ev} {p1 : Option Addr} {n1 c1 : Nat} (he : EvsAt m p1 n1 l) (hd : DL l) (hl : n1 ≤ 1000) : aDue_pre 1 10 10 60 0 0 0 q 1 1 1000 z p1 n1 c1 m := by
 have hz := h.hz
 have hp := h.hp
 have hn := h.hn
 have h1 : 1 * p ≤ (n : Int) * p := Int.mul_le_mul_of_nonneg_right (by omega) (by omega)
 have h2 : (n : Int) * p ≤ 20 * p := Int.mul_le_mul_of_nonneg_right (by omega) (by omega)
 exact ⟨⟨⟨gsp, gmx⟩, rfl, ⟨by omega, by omega, by omega, by omega⟩, hl⟩, _, l, hj, he, h.ev, h.cfg, 0, hd.trc.symm⟩
set_option maxRecDepth 20000 in
theorem evs_ok {m : Mem} {q : Option Addr} {l : List Ev} (h : RowM m q (evRow l)) (hd : DL l) {k : Nat} (hk : l.length = k) : EvsAt m q k l := by
 subst hk
 exact evRow_at h fun x hx => (hd.m x hx).ok
def MisHead (p D : Int) (n : Nat) (p0 : Option Addr) (n0 : Nat) (k : Int) (r0 : List Value) : Prop := ∃ i : Nat, k = (i : Int) + 1 ∧ i ≤ n ∧ r0 = evRow (bL p D i) ∧ n0 = i ∧ (p0 = none → r0 = [])
end
def lMis_pre (x0 x1 x2 x3 x4 x5 : Int) (m : Mem) : Prop := Globs m glSp ∧ Globs m glMx
def lMis_post (x0 x1 x2 x3 x4 x5 : Int) (m : Mem) (b : Bool) : Prop := b = true
def lMis : Sp := { args := [.i .u8, .i .u8, .i .u8, .i .u8, .i .u8, .i .u8], grp := [none, none, none, none, none, none], res := [.b], rgrp := [none], fn := 3, spec := fun a0 a1 a2 a3 a4 a5 => (lMis_pre a0 a1 a2 a3 a4 a5, lMis_post a0 a1 a2 a3 a4 a5) }
set_option maxRecDepth 20000 in
def lMis_VC : Prop := ∀ m : Mem, ∀ x0 : Int, IntKind.u8.min ≤ x0 → x0 ≤ IntKind.u8.max → ∀ x1 : Int, IntKind.u8.min ≤ x1 → x1 ≤ IntKind.u8.max → ∀ x2 : Int, IntKind.u8.min ≤ x2 → x2 ≤ IntKind.u8.max → ∀ x3 : Int, IntKind.u8.min ≤ x3 → x3 ≤ IntKind.u8.max → ∀ x4 : Int, IntKind.u8.min ≤ x4 → x4 ≤ IntKind.u8.max → ∀ x5 : Int, IntKind.u8.min ≤ x5 → x5 ≤ IntKind.u8.max → lMis_pre x0 x1 x2 x3 x4 x5 m →
 (arithP BinOp.rem 16 ∧ ∀ x6 : Int, x6 = arithV BinOp.rem IntKind.u8 x0 16 → (K.u8 x6) ∧ (arithP BinOp.rem 64 ∧ ∀ x7 : Int, x7 = arithV BinOp.rem IntKind.u8 x1 64 → (K.u8 x7) ∧ (arithP BinOp.rem 20 ∧ ∀ x8 : Int, x8 = arithV BinOp.rem IntKind.u8 x2 20 → (K.u8 x8) ∧ (∃ F1 : Option Addr → Nat → Nat → Int → List Value → Prop × Nat, ((K.i64 1) ∧ (F1 none 0 0 1 []).1) ∧
 ∀ (p0 : Option Addr) (n0 c0 : Nat), n0 ≤ 9223372036854775807 → c0 ≤ 9223372036854775807 → ∀ x11 : Int, mi ≤ x11 → x11 ≤ ma → ∀ r0 : List Value, (F1 p0 n0 c0 x11 r0).1 →
 ((x11 ≤ (1 + x8) →
 ((-9223372036854775808 : Int) ≤ (x11 * (2 + x6)) ∧ ((x11 * (2 + x6)) ≤ 9223372036854775807 ∧ ((-9223372036854775808 : Int) ≤ (1000 + (x11 * (2 + x6))) ∧ ((1000 + (x11 * (2 + x6))) ≤ 9223372036854775807 ∧ ((-9223372036854775808 : Int) ≤ ((1000 + (x11 * (2 + x6))) + x7) ∧ (((1000 + (x11 * (2 + x6))) + x7) ≤ 9223372036854775807 ∧ ((-9223372036854775808 : Int) ≤ (((1000 + (x11 * (2 + x6))) + x7) + 1) ∧ ((((1000 + (x11 * (2 + x6))) + x7) + 1) ≤ 9223372036854775807 ∧ ((2 * ((n0 : Int) + 1) * 64 ≤ 281474976710656) ∧ ∀ (p1 : Addr) (c1 : Nat) (r1 : List Value), r1 = r0 ++ [(vI 5), (vI (((1000 + (x11 * (2 + x6))) + x7) + 1)), (vI 0), (vI (1000 + (x11 * (2 + x6)))), (vI 1), (vI 0), (vI 1), (vI 0)] → (n0 : Int) + 1 ≤ (c1 : Int) → c1 ≤ 9223372036854775807 → ((x11 + 1) ≤ 9223372036854775807 ∧ (((Int.toNat ((n0 : Int) + 1)) ≤ 9223372036854775807 ∧ c1 ≤ 9223372036854775807) ∧ (mi ≤ (x11 + 1) ∧ (x11 + 1) ≤ ma) ∧ ((F1 ((some p1).map fun p => p.add 0) (Int.toNat ((n0 : Int) + 1)) c1 (x11 + 1) r1).1 ∧ (F1 ((some p1).map fun p => p.add 0) (Int.toNat ((n0 : Int) + 1)) c1 (x11 + 1) r1).2 < (F1 p0 n0 c0 x11 r0).2))))))))))))) ∧
 ((1 + x8) < x11 →
 (arithP BinOp.rem 100 ∧ ∀ x12 : Int, x12 = arithV BinOp.rem IntKind.u8 x5 100 → (K.u8 x12) ∧ (∀ (p1 : Addr) (m2 : Mem), MemSub m m2 → RowAt m2 (some p1) [(Value.string ⟨List.toArray ([97] : List UInt8)⟩), (vI 2), (Value.int IntKind.u64 0), (Value.int IntKind.u64 0), (Value.int IntKind.u64 0), (Value.int IntKind.u64 0), (Value.int IntKind.u64 0), (Value.int IntKind.u64 0), (Value.bool false), (Value.bool false), (vI 0), (vI (1000 + (2 + x6))), (vI (2 + x6)), (vI (1 + x8)), (Value.slice none 0 0), (vI 1), (vI 0), (vI 0), (vI x7), (vI 0), (vI 0), (vI 0), (vI 0), (vI 0), (vI 0), (vI 0), (vI 0), (vI 0), (vI 0), (vI 0)] → (∀ m3 : Mem, MemSub m2 m3 → RowAt m3 p0 r0 → ((1 ≤ 9223372036854775807 ∧ 1 ≤ 9223372036854775807) ∧ (n0 ≤ 9223372036854775807 ∧ c0 ≤ 9223372036854775807) ∧ aDue_pre 1 10 10 60 0 0 0 ((some p1).map fun p => p.add 0) 1 1 1000 ((1000 + ((1 + x8) * (2 + x6))) + x12) (p0.map fun p => p.add 0) n0 c0 m3 ∧ ∀ m4 : Mem, MemSub m3 m4 → ∀ (p2 : Option Addr) (n2 c2 : Nat), n2 ≤ 9223372036854775807 → c2 ≤ 9223372036854775807 → ∀ x15 : Int, mi ≤ x15 → x15 ≤ ma → aDue_post 1 10 10 60 0 0 0 ((some p1).map fun p => p.add 0) 1 1 1000 ((1000 + ((1 + x8) * (2 + x6))) + x12) (p0.map fun p => p.add 0) n0 c0 m4 p2 n2 c2 x15 →
 ((x15 ≠ 0 →
 (lMis_post x0 x1 x2 x3 x4 x5 m4 false)) ∧
 (x15 = 0 →
 (((n2 : Int) ≠ 0 →
 (lMis_post x0 x1 x2 x3 x4 x5 m4 false)) ∧
 ((n2 : Int) = 0 →
 (arithP BinOp.rem (1 + x8) ∧ ∀ x16 : Int, x16 = arithV BinOp.rem IntKind.i64 x3 (1 + x8) → (K.i64 x16) ∧ (0 ≤ x16 ∧ (x16 < (n0 : Int) ∧ (p0 ≠ none ∧ (HasI m4 p0 ((0 + (x16 * 8)) + 3) 1 ∧ (∃ x17 : Int, cellI m4 p0 ((0 + (x16 * 8)) + 3) = some (vI x17) ∧ (K.i64 x17) ∧ (arithP BinOp.rem 3 ∧ ∀ x18 : Int, x18 = arithV BinOp.rem IntKind.u8 x4 3 → (K.u8 x18) ∧ ((x18 = 0 →
 (∀ b0 : Bool, b0 = decide (p0 = none) → ((b0 = true →
 ((x16 + 1) ≤ 9223372036854775807 ∧ False /- err 130 -/)) ∧
 (b0 = false →
 (1 ≤ (n0 : Int) ∧ (∃ r1 : List Value, ((r1.length : Nat) : Int) = 0 * 8 ∧ (∀ (j : Nat) (v : Value), r1[j]? = some v → cellI m4 p0 (0 + (j : Int)) = some v) ∧ (∃ r2 : List Value, ((r2.length : Nat) : Int) = (n0 : Int) * 8 ∧ (∀ (j : Nat) (v : Value), r2[j]? = some v → cellI m4 p0 (0 + (j : Int)) = some v) ∧ ((2 * (n0 : Int) * 64 ≤ 281474976710656) ∧ ∀ (p3 : Option Addr) (c3 : Nat) (r3 : List Value), r3 = r1 ++ r2 → (n0 : Int) ≤ (c3 : Int) → c3 ≤ 9223372036854775807 → (p3 = none → (n0 : Int) = 0) → ((x16 + 1) ≤ 9223372036854775807 ∧ (1 ≤ (n0 : Int) ∧ (∃ n20_ : Nat, (n20_ : Int) = ((n0 : Int) + (-1 : Int)) ∧ n20_ ≤ 9223372036854775807 ∧ ((0 ≤ x16 ∧ x16 * 8 ≤ ((r3.length : Nat) : Int)) ∧ ∀ r4 : List Value, r4 = r3.take ((x16).toNat * 8) → ((0 ≤ (x16 + 1) ∧ (x16 + 1) * 8 ≤ ((r3.length : Nat) : Int)) ∧ ∀ r5 : List Value, r5 = [] ++ r3.drop (((x16 + 1)).toNat * 8) → ((2 * (n20_ : Int) * 64 ≤ 281474976710656) ∧ ∀ (p4 : Option Addr) (c4 : Nat) (r6 : List Value), r6 = r4 ++ r5 → (n20_ : Int) ≤ (c4 : Int) → c4 ≤ 9223372036854775807 → (p4 = none → (n20_ : Int) = 0) → (∀ m5 : Mem, MemSub m4 m5 → RowAt m5 p4 r6 → ((1 ≤ 9223372036854775807 ∧ 1 ≤ 9223372036854775807) ∧ (n20_ ≤ 9223372036854775807 ∧ c4 ≤ 9223372036854775807) ∧ aDue_pre 1 10 10 60 0 0 0 ((some p1).map fun p => p.add 0) 1 1 1000 ((1000 + ((1 + x8) * (2 + x6))) + x12) (p4.map fun p => p.add 0) n20_ c4 m5 ∧ ∀ m6 : Mem, MemSub m5 m6 → ∀ (p5 : Option Addr) (n5 c5 : Nat), n5 ≤ 9223372036854775807 → c5 ≤ 9223372036854775807 → ∀ x24 : Int, mi ≤ x24 → x24 ≤ ma → aDue_post 1 10 10 60 0 0 0 ((some p1).map fun p => p.add 0) 1 1 1000 ((1000 + ((1 + x8) * (2 + x6))) + x12) (p4.map fun p => p.add 0) n20_ c4 m6 p5 n5 c5 x24 →
 ((x17 + x7) ≤ 9223372036854775807 ∧ (((x17 + x7) < ((1000 + ((1 + x8) * (2 + x6))) + x12) →
 ((x24 = 0 →
 (∀ (p6 : Addr) (m7 : Mem), MemSub m6 m7 → RowAt m7 (some p6) [(vI 7), (vI 0)] → ((n5 ≤ 9223372036854775807 ∧ c5 ≤ 9223372036854775807) ∧ (1 ≤ 9223372036854775807 ∧ 1 ≤ 9223372036854775807) ∧ eqF_pre (p5.map fun p => p.add 0) n5 c5 ((some p6).map fun p => p.add 0) 1 1 m7 ∧ ∀ m8 : Mem, MemSub m7 m8 → ∀ b1 : Bool, eqF_post (p5.map fun p => p.add 0) n5 c5 ((some p6).map fun p => p.add 0) 1 1 m8 b1 →
 ((b1 = true →
 (wrk_pre  m8 ∧ ∀ m9 : Mem, MemSub m8 m9 → ∀ b2 : Bool, wrk_post  m9 b2 →
 (lMis_post x0 x1 x2 x3 x4 x5 m9 b2))) ∧
 (b1 = false →
 (lMis_post x0 x1 x2 x3 x4 x5 m8 false)))))) ∧
 (x24 ≠ 0 →
 (lMis_post x0 x1 x2 x3 x4 x5 m6 false)))) ∧
 (((1000 + ((1 + x8) * (2 + x6))) + x12) ≤ (x17 + x7) →
 ((x24 = 0 →
 ((n5 ≤ 9223372036854775807 ∧ c5 ≤ 9223372036854775807) ∧ eqF_pre (p5.map fun p => p.add 0) n5 c5 none 0 0 m6 ∧ ∀ m7 : Mem, MemSub m6 m7 → ∀ b1 : Bool, eqF_post (p5.map fun p => p.add 0) n5 c5 none 0 0 m7 b1 →
 ((b1 = true →
 (wrk_pre  m7 ∧ ∀ m8 : Mem, MemSub m7 m8 → ∀ b2 : Bool, wrk_post  m8 b2 →
 (lMis_post x0 x1 x2 x3 x4 x5 m8 b2))) ∧
 (b1 = false →
 (lMis_post x0 x1 x2 x3 x4 x5 m7 false))))) ∧
 (x24 ≠ 0 →
 (lMis_post x0 x1 x2 x3 x4 x5 m6 false)))))))))))))))))))))) ∧
 (x18 ≠ 0 →
 ((x18 = 1 →
 (0 ≤ x16 ∧ (x16 < (n0 : Int) ∧ (p0 ≠ none ∧ (HasI m4 p0 (0 + (x16 * 8)) 8 ∧ (∀ b0 : Bool, b0 = decide (p0 = none) → ((b0 = true →
 False /- err 130 -/) ∧
 (b0 = false →
 (1 ≤ (n0 : Int) ∧ (∃ r1 : List Value, ((r1.length : Nat) : Int) = 0 * 8 ∧ (∀ (j : Nat) (v : Value), r1[j]? = some v → cellI m4 p0 (0 + (j : Int)) = some v) ∧ (∃ r2 : List Value, ((r2.length : Nat) : Int) = (n0 : Int) * 8 ∧ (∀ (j : Nat) (v : Value), r2[j]? = some v → cellI m4 p0 (0 + (j : Int)) = some v) ∧ ((2 * (n0 : Int) * 64 ≤ 281474976710656) ∧ ∀ (p3 : Option Addr) (c3 : Nat) (r3 : List Value), r3 = r1 ++ r2 → (n0 : Int) ≤ (c3 : Int) → c3 ≤ 9223372036854775807 → (p3 = none → (n0 : Int) = 0) → (∃ x20 : Int, cellI m4 p0 (0 + (x16 * 8)) = some (vI x20) ∧ (K.i64 x20) ∧ (∃ x21 : Int, cellI m4 p0 ((0 + (x16 * 8)) + 1) = some (vI x21) ∧ (K.i64 x21) ∧ (∃ x22 : Int, cellI m4 p0 ((0 + (x16 * 8)) + 2) = some (vI x22) ∧ (K.i64 x22) ∧ (∃ x23 : Int, cellI m4 p0 ((0 + (x16 * 8)) + 4) = some (vI x23) ∧ (K.i64 x23) ∧ (∃ x24 : Int, cellI m4 p0 ((0 + (x16 * 8)) + 5) = some (vI x24) ∧ (K.i64 x24) ∧ (∃ x25 : Int, cellI m4 p0 ((0 + (x16 * 8)) + 6) = some (vI x25) ∧ (K.i64 x25) ∧ (∃ x26 : Int, cellI m4 p0 ((0 + (x16 * 8)) + 7) = some (vI x26) ∧ (K.i64 x26) ∧ (1 ≤ (n0 : Int) ∧ ((0 ≤ x16 ∧ x16 * 8 ≤ ((r3.length : Nat) : Int)) ∧ ∀ r4 : List Value, r4 = r3.take ((x16).toNat * 8) → ((0 ≤ x16 ∧ x16 * 8 ≤ ((r3.length : Nat) : Int)) ∧ ∀ r5 : List Value, r5 = [(vI x20), (vI x21), (vI x22), (vI x17), (vI x23), (vI x24), (vI x25), (vI x26)] ++ r3.drop ((x16).toNat * 8) → ((2 * ((n0 : Int) + 1) * 64 ≤ 281474976710656) ∧ ∀ (p4 : Option Addr) (c4 : Nat) (r6 : List Value), r6 = r4 ++ r5 → ((n0 : Int) + 1) ≤ (c4 : Int) → c4 ≤ 9223372036854775807 → (p4 = none → ((n0 : Int) + 1) = 0) → (∀ m5 : Mem, MemSub m4 m5 → RowAt m5 p4 r6 → ((1 ≤ 9223372036854775807 ∧ 1 ≤ 9223372036854775807) ∧ ((Int.toNat ((n0 : Int) + 1)) ≤ 9223372036854775807 ∧ c4 ≤ 9223372036854775807) ∧ aDue_pre 1 10 10 60 0 0 0 ((some p1).map fun p => p.add 0) 1 1 1000 ((1000 + ((1 + x8) * (2 + x6))) + x12) (p4.map fun p => p.add 0) (Int.toNat ((n0 : Int) + 1)) c4 m5 ∧ ∀ m6 : Mem, MemSub m5 m6 → ∀ (p5 : Option Addr) (n5 c5 : Nat), n5 ≤ 9223372036854775807 → c5 ≤ 9223372036854775807 → ∀ x30 : Int, mi ≤ x30 → x30 ≤ ma → aDue_post 1 10 10 60 0 0 0 ((some p1).map fun p => p.add 0) 1 1 1000 ((1000 + ((1 + x8) * (2 + x6))) + x12) (p4.map fun p => p.add 0) (Int.toNat ((n0 : Int) + 1)) c4 m6 p5 n5 c5 x30 →
 ((x30 = 0 →
 ((x16 + 1) ≤ 9223372036854775807 ∧ (∀ (p6 : Addr) (m7 : Mem), MemSub m6 m7 → RowAt m7 (some p6) [(vI 6), (vI (x16 + 1))] → ((n5 ≤ 9223372036854775807 ∧ c5 ≤ 9223372036854775807) ∧ (1 ≤ 9223372036854775807 ∧ 1 ≤ 9223372036854775807) ∧ eqF_pre (p5.map fun p => p.add 0) n5 c5 ((some p6).map fun p => p.add 0) 1 1 m7 ∧ ∀ m8 : Mem, MemSub m7 m8 → ∀ b1 : Bool, eqF_post (p5.map fun p => p.add 0) n5 c5 ((some p6).map fun p => p.add 0) 1 1 m8 b1 →
 ((b1 = true →
 (wrk_pre  m8 ∧ ∀ m9 : Mem, MemSub m8 m9 → ∀ b2 : Bool, wrk_post  m9 b2 →
 (lMis_post x0 x1 x2 x3 x4 x5 m9 b2))) ∧
 (b1 = false →
 (lMis_post x0 x1 x2 x3 x4 x5 m8 false))))))) ∧
 (x30 ≠ 0 →
 (lMis_post x0 x1 x2 x3 x4 x5 m6 false)))))))))))))))))))))))))))) ∧
 (x18 ≠ 1 →
 (0 ≤ x16 ∧ (x16 < (n0 : Int) ∧ (p0 ≠ none ∧ (HasI m4 p0 (0 + (x16 * 8)) 8 ∧ ((-9223372036854775808 : Int) ≤ (x17 - 1) ∧ (∀ b0 : Bool, b0 = decide (p0 = none) → ((b0 = true →
 False /- err 130 -/) ∧
 (b0 = false →
 (1 ≤ (n0 : Int) ∧ (∃ r1 : List Value, ((r1.length : Nat) : Int) = 0 * 8 ∧ (∀ (j : Nat) (v : Value), r1[j]? = some v → cellI m4 p0 (0 + (j : Int)) = some v) ∧ (∃ r2 : List Value, ((r2.length : Nat) : Int) = (n0 : Int) * 8 ∧ (∀ (j : Nat) (v : Value), r2[j]? = some v → cellI m4 p0 (0 + (j : Int)) = some v) ∧ ((2 * (n0 : Int) * 64 ≤ 281474976710656) ∧ ∀ (p3 : Option Addr) (c3 : Nat) (r3 : List Value), r3 = r1 ++ r2 → (n0 : Int) ≤ (c3 : Int) → c3 ≤ 9223372036854775807 → (p3 = none → (n0 : Int) = 0) → (∃ x20 : Int, cellI m4 p0 (0 + (x16 * 8)) = some (vI x20) ∧ (K.i64 x20) ∧ (∃ x21 : Int, cellI m4 p0 ((0 + (x16 * 8)) + 1) = some (vI x21) ∧ (K.i64 x21) ∧ (∃ x22 : Int, cellI m4 p0 ((0 + (x16 * 8)) + 2) = some (vI x22) ∧ (K.i64 x22) ∧ (∃ x23 : Int, cellI m4 p0 ((0 + (x16 * 8)) + 4) = some (vI x23) ∧ (K.i64 x23) ∧ (∃ x24 : Int, cellI m4 p0 ((0 + (x16 * 8)) + 5) = some (vI x24) ∧ (K.i64 x24) ∧ (∃ x25 : Int, cellI m4 p0 ((0 + (x16 * 8)) + 6) = some (vI x25) ∧ (K.i64 x25) ∧ (∃ x26 : Int, cellI m4 p0 ((0 + (x16 * 8)) + 7) = some (vI x26) ∧ (K.i64 x26) ∧ (1 ≤ (n0 : Int) ∧ ((0 ≤ x16 ∧ x16 * 8 ≤ ((r3.length : Nat) : Int)) ∧ ∀ r4 : List Value, r4 = r3.take ((x16).toNat * 8) → ((0 ≤ x16 ∧ x16 * 8 ≤ ((r3.length : Nat) : Int)) ∧ ∀ r5 : List Value, r5 = [(vI x20), (vI x21), (vI x22), (vI (x17 - 1)), (vI x23), (vI x24), (vI x25), (vI x26)] ++ r3.drop ((x16).toNat * 8) → ((2 * ((n0 : Int) + 1) * 64 ≤ 281474976710656) ∧ ∀ (p4 : Option Addr) (c4 : Nat) (r6 : List Value), r6 = r4 ++ r5 → ((n0 : Int) + 1) ≤ (c4 : Int) → c4 ≤ 9223372036854775807 → (p4 = none → ((n0 : Int) + 1) = 0) → (∀ m5 : Mem, MemSub m4 m5 → RowAt m5 p4 r6 → ((1 ≤ 9223372036854775807 ∧ 1 ≤ 9223372036854775807) ∧ ((Int.toNat ((n0 : Int) + 1)) ≤ 9223372036854775807 ∧ c4 ≤ 9223372036854775807) ∧ aDue_pre 1 10 10 60 0 0 0 ((some p1).map fun p => p.add 0) 1 1 1000 ((1000 + ((1 + x8) * (2 + x6))) + x12) (p4.map fun p => p.add 0) (Int.toNat ((n0 : Int) + 1)) c4 m5 ∧ ∀ m6 : Mem, MemSub m5 m6 → ∀ (p5 : Option Addr) (n5 c5 : Nat), n5 ≤ 9223372036854775807 → c5 ≤ 9223372036854775807 → ∀ x30 : Int, mi ≤ x30 → x30 ≤ ma → aDue_post 1 10 10 60 0 0 0 ((some p1).map fun p => p.add 0) 1 1 1000 ((1000 + ((1 + x8) * (2 + x6))) + x12) (p4.map fun p => p.add 0) (Int.toNat ((n0 : Int) + 1)) c4 m6 p5 n5 c5 x30 →
 ((x30 = 0 →
 (∀ (p6 : Addr) (m7 : Mem), MemSub m6 m7 → RowAt m7 (some p6) [(vI 5), (vI x16)] → ((n5 ≤ 9223372036854775807 ∧ c5 ≤ 9223372036854775807) ∧ (1 ≤ 9223372036854775807 ∧ 1 ≤ 9223372036854775807) ∧ eqF_pre (p5.map fun p => p.add 0) n5 c5 ((some p6).map fun p => p.add 0) 1 1 m7 ∧ ∀ m8 : Mem, MemSub m7 m8 → ∀ b1 : Bool, eqF_post (p5.map fun p => p.add 0) n5 c5 ((some p6).map fun p => p.add 0) 1 1 m8 b1 →
 ((b1 = true →
 (wrk_pre  m8 ∧ ∀ m9 : Mem, MemSub m8 m9 → ∀ b2 : Bool, wrk_post  m9 b2 →
 (lMis_post x0 x1 x2 x3 x4 x5 m9 b2))) ∧
 (b1 = false →
 (lMis_post x0 x1 x2 x3 x4 x5 m8 false)))))) ∧
 (x30 ≠ 0 →
 (lMis_post x0 x1 x2 x3 x4 x5 m6 false)))))))))))))))))))))))))))))))))))))))))))))))))))))
set_option maxRecDepth 20000 in
set_option maxHeartbeats 4000000 in
theorem lMis_vc : lMis_VC := by
 intro m x0 a0 b0 x1 a1 b1 x2 a2 b2 x3 a3 b3 x4 a4 b4 x5 a5 b5 ⟨gsp, gmx⟩
 have a0 : (0 : Int) ≤ x0 := a0
 have a1 : (0 : Int) ≤ x1 := a1
 have a2 : (0 : Int) ≤ x2 := a2
 have a3 : (0 : Int) ≤ x3 := a3
 have b3 : x3 ≤ (255 : Int) := b3
 have a4 : (0 : Int) ≤ x4 := a4
 have a5 : (0 : Int) ≤ x5 := a5
 have kz : K.i64 0 := by constructor <;> decide
 have k1 : K.i64 1 := by constructor <;> decide
 refine ⟨(by show (16 : Int) ≠ 0; decide), fun x6 e6 => ?_⟩
 rw [rem_nm a0] at e6
 refine ⟨⟨by show (0 : Int) ≤ x6; omega, by show x6 ≤ 255; omega⟩, (by show (64 : Int) ≠ 0; decide), fun x7 e7 => ?_⟩
 rw [rem_nm a1] at e7
 refine ⟨⟨by show (0 : Int) ≤ x7; omega, by show x7 ≤ 255; omega⟩, (by show (20 : Int) ≠ 0; decide), fun x8 e8 => ?_⟩
 rw [rem_nm a2] at e8
 refine ⟨⟨by show (0 : Int) ≤ x8; omega, by show x8 ≤ 255; omega⟩, ?_⟩
 obtain ⟨N, hN⟩ : ∃ N : Nat, (N : Int) = 1 + x8 := ⟨(1 + x8).toNat, by omega⟩
 have hp : 2 ≤ 2 + x6 ∧ 2 + x6 ≤ 17 := by omega
 refine ⟨fun p0 n0 c0 k r0 => (MisHead (2 + x6) x7 N p0 n0 k r0, (2 + x8 - k).toNat), ⟨k1, 0, rfl, by omega, rfl, rfl, fun _ => rfl⟩, ?_⟩
 rintro p0 n0 c0 hn0 hc0 x11 _ _ r0 ⟨i, hi1, hiN, hr0, hn0e, hp0⟩
 have q1 : 0 ≤ x11 * (2 + x6) := Int.mul_nonneg (by omega) (by omega)
 have q2 : x11 * (2 + x6) ≤ 21 * (2 + x6) := Int.mul_le_mul_of_nonneg_right (by omega) (by omega)
 refine ⟨fun hle => ⟨by omega, by omega, by omega, by omega, by omega, by omega, by omega, by omega, by omega, fun p1 c1 r1 hr1 _ hc1 => ⟨by omega, ⟨by omega, hc1⟩, k64 (by omega) (by omega), ⟨i + 1, by omega, by omega, ?_, by omega, fun h => by cases h⟩, by first | omega | (simp only; omega)⟩⟩, fun hgt => ?_⟩
 ·have hdue : 1000 + x11 * (2 + x6) = dS (2 + x6) i := by
   unfold dS
   rw [hi1, Int.add_mul, Int.one_mul]; omega
  rw [hr1, hdue, bL_succ, evRow_app, hr0]; rfl
 -- the lists are made
 have hiN' : i = N := by omega
 subst hiN'
 refine ⟨(by show (100 : Int) ≠ 0; decide), fun x12 e12 => ?_⟩
 rw [rem_nm a5] at e12
 refine ⟨⟨by show (0 : Int) ≤ x12; omega, by show x12 ≤ 255; omega⟩, fun p1 m2 hm2 hrow2 m3 hm3 hrow3 => ?_⟩
 have h : MisR (2 + x6) x7 ((1000 + ((1 + x8) * (2 + x6))) + x12) i := ⟨hp, by omega, by omega, by rw [hN]; omega⟩
 have hjob : JobsAt m2 (some p1) 1 [jobM (2 + x6) x7 i] := jobs_row1 (by rw [← hN] at hrow2; exact hrow2) h.job
 have hlen : (bL (2 + x6) x7 i).length = n0 := by rw [bL_len]; omega
 have hM3 : RowM m3 p0 (evRow (bL (2 + x6) x7 i)) := by rw [← hr0]; exact ⟨hrow3, hp0⟩
 have hdl := b_dl h
 have he3 := evs_ok hM3 hdl hlen
 simp only [map_add0]
 generalize hzd : (1000 + ((1 + x8) * (2 + x6))) + x12 = z at h ⊢
 refine ⟨⟨by omega, by omega⟩, ⟨hn0, hc0⟩, due_pre h (gsp.sub (hm2.trans hm3)) (gmx.sub (hm2.trans hm3)) (hjob.sub hm3) he3 hdl (by omega), fun m4 hm4 p2 n2 c2 hn2 hc2 x15 _ _ hpost => ?_⟩
 have he4 := he3.sub hm4
 have hj4 := (hjob.sub hm3).sub hm4
 have hM4 := hM3.sub hm4
 have gsp4 := gsp.sub ((hm2.trans hm3).trans hm4)
 have gmx4 := gmx.sub ((hm2.trans hm3).trans hm4)
 obtain ⟨rfl, M, hMi, hrow, hn⟩ := hpost _ _ hj4 he4
 obtain ⟨w1, w2⟩ := c_whole h hMi
 refine ⟨fun hx => absurd rfl hx, fun _ => ⟨fun hx => absurd (by omega) hx, fun _ => ?_⟩⟩
 refine ⟨(by show (1 + x8 : Int) ≠ 0; omega), fun x16 e16 => ?_⟩
 rw [rem_nm a3] at e16
 have g1 : 0 ≤ x16 := by rw [e16]; exact Int.emod_nonneg _ (by omega)
 have g2 : x16 < 1 + x8 := by rw [e16]; exact Int.emod_lt_of_pos _ (by omega)
 obtain ⟨j, rfl⟩ : ∃ j : Nat, x16 = (j : Int) := ⟨x16.toNat, by omega⟩
 have hj : j < i := by omega
 have hat : EvAt m4 p0 ((0 + (j : Int) * 8)) (bE (2 + x6) x7 j) := by
  have := he4.2 j _ (bL_get hj)
  rwa [Int.zero_add]
 have hne : p0 ≠ none := hat.1.ne
 have hrng := h.rng hj
 refine ⟨k64 (by omega) (by omega), by omega, by omega, hne, hat.2.2.2.1.has, dS (2 + x6) j, hat.2.2.2.1.1, k64 (by omega) (by omega), (by show (3 : Int) ≠ 0; decide), fun x18 e18 => ?_⟩
 rw [rem_nm a4] at e18
 have jt : Int.toNat (j : Int) = j := Int.toNat_natCast j
 have dj : dS (2 + x6) j ≤ 1340 := hrng.2.2
 refine ⟨⟨by show (0 : Int) ≤ x18; omega, by show x18 ≤ 255; omega⟩, fun h0 => ?_, fun hn0' => ⟨fun h1 => ?_, fun h2 => ?_⟩⟩
 ·-- one is left out
  intro b0 hb0
  refine ⟨fun hb => ?_, fun _ => ?_⟩
  ·rw [hb] at hb0; exact absurd (by simpa using hb0.symm) hne
  refine ⟨by omega, [], rfl, (fun j v hv => by simp at hv), evRow (bL (2 + x6) x7 i), by rw [evRow_l8, hlen]; simp, fun t v hv => row_cells hM4 t v hv, by omega, fun p3 c3 r3 hr3 _ _ _ => ?_⟩
  have hr3' : r3 = evRow (bL (2 + x6) x7 i) := by rw [hr3]; rfl
  have l3 : r3.length = i * 8 := by rw [hr3', evRow_l8, bL_len]
  refine ⟨by omega, by omega, n0 - 1, by omega, by omega, ⟨by omega, by rw [l3]; omega⟩, fun r4 hr4 => ⟨⟨by omega, by rw [l3]; omega⟩, fun r5 hr5 => ⟨by omega, fun p4 c4 r6 hr6 _ hc4 hz4 m5 hm5 hrow5 => ?_⟩⟩⟩
  have e6 : r6 = evRow (dL (2 + x6) x7 i j) := by
   rw [hr6, hr5, hr4, hr3', jt, show ((j : Int) + 1).toNat = j + 1 by omega]
   exact dL_row hj
  have hdd := d_dl h hj
  have hM5 : RowM m5 p4 (evRow (dL (2 + x6) x7 i j)) := ⟨by rw [← e6]; exact hrow5, fun hp4 => by
   have := hz4 hp4
   apply List.length_eq_zero_iff.1
   rw [evRow_l8, dL_len hj]; omega⟩
  have he5 : EvsAt m5 p4 (n0 - 1) (dL (2 + x6) x7 i j) := evs_ok hM5 hdd (by rw [dL_len hj]; omega)
  refine ⟨⟨by omega, by omega⟩, ⟨by omega, hc4⟩, due_pre h (gsp4.sub hm5) (gmx4.sub hm5) (hj4.sub hm5) he5 hdd (by omega), fun m6 hm6 p5 n5 c5 hn5 hc5 x23 _ _ hpost2 => ?_⟩
  obtain ⟨rfl, M2, hMi2, hrow6, hn6⟩ := hpost2 _ _ ((hj4.sub hm5).sub hm6) (he5.sub hm6)
  obtain ⟨d1, d2⟩ := c_del h hj hMi2
  refine ⟨by omega, fun hlt => ⟨fun _ p6 m7 hm7 hrow7 => ?_, fun hx => absurd rfl hx⟩, fun hge => ⟨fun _ => ?_, fun hx => absurd rfl hx⟩⟩
  ·obtain ⟨e1, e2⟩ := d1 hlt
   rw [e1] at hrow6
   refine ⟨⟨hn5, hc5⟩, ⟨by omega, by omega⟩, ⟨7, [0], by constructor <;> decide, by rw [hn6, e2]; rfl, rfl, hrow6.sub hm7, ⟨hrow7, fun hx => by cases hx⟩, fun t ht => by simp at ht; omega⟩, fun m8 hm8 b1 hb1 => ⟨fun _ => ⟨((gmx4.sub hm5).sub hm6).sub (hm7.trans hm8), fun m9 hm9 b2 hb2 => hb2⟩, fun hb => ?_⟩⟩
   have hb1 : b1 = true := hb1
   rw [hb] at hb1; cases hb1
  ·obtain ⟨e1, e2⟩ := d2 hge
   rw [e1] at hrow6
   refine ⟨⟨hn5, hc5⟩, ⟨7, [], by constructor <;> decide, by rw [hn6, e2]; rfl, rfl, hrow6, ⟨(fun q hq => by cases hq), fun _ => rfl⟩, fun t ht => by cases ht⟩, fun m8 hm8 b1 hb1 => ⟨fun _ => ⟨((gmx4.sub hm5).sub hm6).sub hm8, fun m9 hm9 b2 hb2 => hb2⟩, fun hb => ?_⟩⟩
   have hb1 : b1 = true := hb1
   rw [hb] at hb1; cases hb1
 ·-- one is there twice
  refine ⟨by omega, by omega, hne, hat.has, fun b0 hb0 => ⟨fun hb => ?_, fun _ => ?_⟩⟩
  ·rw [hb] at hb0; exact absurd (by simpa using hb0.symm) hne
  refine ⟨by omega, [], rfl, (fun j v hv => by simp at hv), evRow (bL (2 + x6) x7 i), by rw [evRow_l8, hlen]; simp, fun t v hv => row_cells hM4 t v hv, by omega, fun p3 c3 r3 hr3 _ _ _ => ?_⟩
  have hr3' : r3 = evRow (bL (2 + x6) x7 i) := by rw [hr3]; rfl
  have l3 : r3.length = i * 8 := by rw [hr3', evRow_l8, bL_len]
  refine ⟨_, hat.1.1, hat.1.2, _, hat.2.1.1, hat.2.1.2, _, hat.2.2.1.1, hat.2.2.1.2, _, hat.2.2.2.2.1.1, hat.2.2.2.2.1.2, _, hat.2.2.2.2.2.1.1, hat.2.2.2.2.2.1.2, _, hat.2.2.2.2.2.2.1.1, hat.2.2.2.2.2.2.1.2, _, hat.2.2.2.2.2.2.2.1, hat.2.2.2.2.2.2.2.2, ?_⟩
  refine ⟨by omega, ⟨by omega, by rw [l3]; omega⟩, fun r4 hr4 => ⟨⟨by omega, by rw [l3]; omega⟩, fun r5 hr5 => ⟨by omega, fun p4 c4 r6 hr6 _ hc4 hz4 m5 hm5 hrow5 => ?_⟩⟩⟩
  have e6 : r6 = evRow (iL (2 + x6) x7 i j (bE (2 + x6) x7 j)) := by
   rw [hr6, hr5, hr4, hr3', jt]
   exact iL_row hj _
  have hdd := i_dl h hj (h.isB hj) rfl
  have hM5 : RowM m5 p4 (evRow (iL (2 + x6) x7 i j (bE (2 + x6) x7 j))) := ⟨by rw [← e6]; exact hrow5, fun hp4 => by have := hz4 hp4; omega⟩
  have ek : Int.toNat ((n0 : Int) + 1) = n0 + 1 := by omega
  rw [ek]
  have he5 := evs_ok (k := n0 + 1) hM5 hdd (by rw [iL_len hj]; omega)
  refine ⟨⟨by omega, by omega⟩, ⟨by omega, hc4⟩, due_pre h (gsp4.sub hm5) (gmx4.sub hm5) (hj4.sub hm5) he5 hdd (by omega), fun m6 hm6 p5 n5 c5 hn5 hc5 x23 _ _ hpost2 => ?_⟩
  obtain ⟨rfl, M2, hMi2, hrow6, hn6⟩ := hpost2 _ _ ((hj4.sub hm5).sub hm6) (he5.sub hm6)
  obtain ⟨e1, e2⟩ := c_dup h hj hMi2
  rw [e1] at hrow6
  refine ⟨fun _ => ⟨by omega, fun p6 m7 hm7 hrow7 => ?_⟩, fun hx => absurd rfl hx⟩
  refine ⟨⟨hn5, hc5⟩, ⟨by omega, by omega⟩, ⟨6, [j + 1], by constructor <;> decide, by rw [hn6, e2]; rfl, rfl, hrow6.sub hm7, ⟨hrow7, fun hx => by cases hx⟩, fun t ht => by simp at ht; omega⟩, fun m8 hm8 b1 hb1 => ⟨fun _ => ⟨((gmx4.sub hm5).sub hm6).sub (hm7.trans hm8), fun m9 hm9 b2 hb2 => hb2⟩, fun hb => ?_⟩⟩
  have hb1 : b1 = true := hb1
  rw [hb] at hb1; cases hb1
 ·-- one at a time that is not due
  refine ⟨by omega, by omega, hne, hat.has, by omega, fun b0 hb0 => ⟨fun hb => ?_, fun _ => ?_⟩⟩
  ·rw [hb] at hb0; exact absurd (by simpa using hb0.symm) hne
  refine ⟨by omega, [], rfl, (fun j v hv => by simp at hv), evRow (bL (2 + x6) x7 i), by rw [evRow_l8, hlen]; simp, fun t v hv => row_cells hM4 t v hv, by omega, fun p3 c3 r3 hr3 _ _ _ => ?_⟩
  have hr3' : r3 = evRow (bL (2 + x6) x7 i) := by rw [hr3]; rfl
  have l3 : r3.length = i * 8 := by rw [hr3', evRow_l8, bL_len]
  refine ⟨_, hat.1.1, hat.1.2, _, hat.2.1.1, hat.2.1.2, _, hat.2.2.1.1, hat.2.2.1.2, _, hat.2.2.2.2.1.1, hat.2.2.2.2.1.2, _, hat.2.2.2.2.2.1.1, hat.2.2.2.2.2.1.2, _, hat.2.2.2.2.2.2.1.1, hat.2.2.2.2.2.2.1.2, _, hat.2.2.2.2.2.2.2.1, hat.2.2.2.2.2.2.2.2, ?_⟩
  refine ⟨by omega, ⟨by omega, by rw [l3]; omega⟩, fun r4 hr4 => ⟨⟨by omega, by rw [l3]; omega⟩, fun r5 hr5 => ⟨by omega, fun p4 c4 r6 hr6 _ hc4 hz4 m5 hm5 hrow5 => ?_⟩⟩⟩
  have e6 : r6 = evRow (iL (2 + x6) x7 i j (wE (2 + x6) x7 j)) := by
   rw [hr6, hr5, hr4, hr3', jt]
   exact iL_row hj (wE (2 + x6) x7 j)
  have hdd := i_dl h hj (h.isW hj) rfl
  have hM5 : RowM m5 p4 (evRow (iL (2 + x6) x7 i j (wE (2 + x6) x7 j))) := ⟨by rw [← e6]; exact hrow5, fun hp4 => by have := hz4 hp4; omega⟩
  have ek : Int.toNat ((n0 : Int) + 1) = n0 + 1 := by omega
  rw [ek]
  have he5 := evs_ok (k := n0 + 1) hM5 hdd (by rw [iL_len hj]; omega)
  refine ⟨⟨by omega, by omega⟩, ⟨by omega, hc4⟩, due_pre h (gsp4.sub hm5) (gmx4.sub hm5) (hj4.sub hm5) he5 hdd (by omega), fun m6 hm6 p5 n5 c5 hn5 hc5 x23 _ _ hpost2 => ?_⟩
  obtain ⟨rfl, M2, hMi2, hrow6, hn6⟩ := hpost2 _ _ ((hj4.sub hm5).sub hm6) (he5.sub hm6)
  obtain ⟨e1, e2⟩ := c_wro h hj hMi2
  rw [e1] at hrow6
  refine ⟨fun _ p6 m7 hm7 hrow7 => ?_, fun hx => absurd rfl hx⟩
  refine ⟨⟨hn5, hc5⟩, ⟨by omega, by omega⟩, ⟨5, [j], by constructor <;> decide, by rw [hn6, e2]; rfl, rfl, hrow6.sub hm7, ⟨hrow7, fun hx => by cases hx⟩, fun t ht => by simp at ht; omega⟩, fun m8 hm8 b1 hb1 => ⟨fun _ => ⟨((gmx4.sub hm5).sub hm6).sub (hm7.trans hm8), fun m9 hm9 b2 hb2 => hb2⟩, fun hb => ?_⟩⟩
  have hb1 : b1 = true := hb1
  rw [hb] at hb1; cases hb1
set_option maxRecDepth 20000 in
theorem lMis_ok : SpOk Tryz.prog lMis :=
 con_ok (sps_of [aDue, eqF, wrk] ⟨aDue_ok, ⟨eqF_ok, ⟨wrk_ok, trivial⟩⟩⟩ rfl) (tab_okE _ [⟨(194, 5), [], [(18, .i .i64)], [(17, 33)], []⟩] trsEv trsEv_ok) 1000 lMis _ rfl rfl (Eq.mp (show lMis_VC = _ by kernel_rfl) lMis_vc)
end Go.Proofs.YtjabmipkllkfbaaGreatDoor.Vc
