/-
  Failures in a map, by job, due time and attempt; what is wrong with attempts: plain; Contracts, by their trees.
-/
import Derived.Test.YtmpbddmbpeoehaaGreatDoorWN
import Derived.Test.YtmpbddmbpeoehaaGreatDoorWO
import Derived.Test.YtmpbddmbpeoehaaGreatDoorWG
set_option linter.unusedVariables false
set_option linter.unusedSimpArgs false
namespace Go.Proofs.YtmpbddmbpeoehaaGreatDoor.Vc
open As
theorem pol_ret {p : Pol} (h : polP p = 0) : retP_ p.ret = 0 := by
 unfold polP at h
 rw [first_two _ _ (by
  intro e he
  simp only [List.mem_cons, List.not_mem_nil, or_false] at he
  rcases he with rfl | rfl | rfl | rfl | rfl
  ·exact rule_two _
  ·unfold misP; split <;> exact rule_two _
  ·exact rule_two _
  ·unfold brkP; split
   ·exact .inl rfl
   ·exact rule_two _
  ·unfold retP_; split
   ·exact .inl rfl
   ·exact rule_two _) (.inl rfl)] at h
 split at h
 ·rename_i h1
  exact h1.2 _ (by simp)
 ·cases h
theorem ev_att {x : Ev} (h : evP x = 0) (hk : x.kind = 4 ∨ (x.kind = 1 ∧ x.attempt ≠ 1)) : 2 ≤ x.attempt := by
 have h1 : inU (usesK x.kind).2.1 x.attempt (if x.kind = 4 then 2 else 1) 21 = true := by
  cases hj : inU (usesK x.kind).2.1 x.attempt (if x.kind = 4 then 2 else 1) 21 with
  | true => rfl
  | false =>
   exfalso
   unfold evP at h
   by_cases h1 : x.kind < 1 ∨ 9 ≤ x.kind
   ·rw [if_pos h1] at h; cases h
   ·rw [if_neg h1] at h
    dsimp only at h
    rw [hj] at h
    simp only [Bool.and_false, Bool.false_and, Bool.false_eq_true, if_false] at h
    split at h <;> cases h
 have hu : (usesK x.kind).2.1 = true := by
  unfold usesK
  rcases hk with h | ⟨h, _⟩
  ·rw [h]; rfl
  ·rw [h]; rfl
 rw [hu] at h1
 simp only [inU, if_true, Bool.and_eq_true, decide_eq_true_eq] at h1
 rcases hk with h | ⟨h, g⟩
 ·rw [if_pos h] at h1; omega
 ·rw [if_neg (by omega)] at h1; omega
theorem ev_due {x : Ev} (h : evP x = 0) (hk : x.kind = 4 ∨ (x.kind = 1 ∧ x.attempt ≠ 1)) : 0 ≤ x.due ∧ x.due ≤ 253402300799 := by
 have ht : timeB x.due = true := by
  cases hj : timeB x.due with
  | true => rfl
  | false =>
   exfalso
   unfold evP at h
   have hu : (usesK x.kind).2.1 = true := by
    unfold usesK
    rcases hk with h | ⟨h, _⟩
    ·rw [h]; rfl
    ·rw [h]; rfl
   by_cases h1 : x.kind < 1 ∨ 9 ≤ x.kind
   ·rw [if_pos h1] at h; cases h
   ·rw [if_neg h1] at h
    dsimp only at h
    rw [if_pos (.inr ⟨hu, by rw [hj]; simp⟩)] at h
    cases h
 simp only [timeB, Bool.and_eq_true, decide_eq_true_eq] at ht
 exact ht
theorem cfg_name {a b c d t u : Int} {L : List JobR} (h : cfgE a b c d t u L = 0) : ∀ J ∈ L, nameB J.name = true := by
 unfold cfgE at h
 split at h
 ·rename_i h1; exact (h1 h).elim
 ·split at h
  ·cases h
  ·split at h
   ·cases h
   ·rename_i h3
    have ha : L.all (fun J => nameB J.name) = true := by simpa using h3
    exact fun J hJ => List.all_eq_true.1 ha J hJ
structure Fl4 where
 j : Int
 d : Int
 k : Int
 t : Int
def akey (j d k : Int) : Value := .agg (List.toArray [.int .i64 j, .int .i64 d, .int .i64 k])
def ent4 (e : Fl4) : Value := .tuple #[akey e.j e.d e.k, .int .i64 e.t]
def Fl4.is (e : Fl4) (j d k : Int) : Bool := decide (j = e.j) && (decide (d = e.d) && decide (k = e.k))
theorem same_akey (j d k : Int) (e : Fl4) : sameKey (akey j d k) (akey e.j e.d e.k) = some (e.is j d k) := by
 unfold akey sameKey Fl4.is
 simp only [sameInts, if_true]
 congr 1
 rw [Bool.eq_iff_iff]
 simp
def fGet : List Fl4 → Int → Int → Int → Option Int
 | [], _, _, _ => none
 | e :: F, j, d, k => if e.is j d k = true then some e.t else fGet F j d k
def fPut : List Fl4 → Int → Int → Int → Int → List Fl4
 | [], j, d, k, t => [⟨j, d, k, t⟩]
 | e :: F, j, d, k, t => if e.is j d k = true then ⟨j, d, k, t⟩ :: F else e :: fPut F j d k t
theorem is_iff {e : Fl4} {j d k : Int} : e.is j d k = true ↔ j = e.j ∧ d = e.d ∧ k = e.k := by simp [Fl4.is]
theorem fGet_put : ∀ (F : List Fl4) (j d k t j' d' k' : Int), fGet (fPut F j d k t) j' d' k' = if j' = j ∧ d' = d ∧ k' = k then some t else fGet F j' d' k' := by
 intro F
 induction F with
 | nil =>
  intro j d k t j' d' k'
  simp only [fPut, fGet, is_iff]
 | cons e F ih =>
  intro j d k t j' d' k'
  simp only [fPut]
  by_cases h : e.is j d k = true
  ·rw [if_pos h]
   simp only [fGet, is_iff]
   rw [is_iff] at h
   obtain ⟨h1, h2, h3⟩ := h
   by_cases g : j' = j ∧ d' = d ∧ k' = k
   ·rw [if_pos g, if_pos g]
   ·rw [if_neg g, if_neg g, if_neg (fun q => g ⟨by omega, by omega, by omega⟩)]
  ·rw [if_neg h]
   simp only [fGet, ih, is_iff]
   rw [is_iff] at h
   by_cases g : j' = e.j ∧ d' = e.d ∧ k' = e.k
   ·rw [if_pos g, if_neg (fun q => h ⟨by omega, by omega, by omega⟩), if_pos g]
   ·rw [if_neg g, if_neg g]
theorem mf4 : ∀ (F : List Fl4) (j d k : Int) (i : Nat), ∃ f, mFind (akey j d k) (F.map ent4) i = some f ∧ (match fGet F j d k with | some t => ∃ n, f = some (i + n, .int .i64 t) | none => f = none) ∧
  ∀ t, i = 0 → mSet f (F.map ent4) (akey j d k) (.int .i64 t) = (fPut F j d k t).map ent4 := by
 have key : ∀ (F : List Fl4) (j d k : Int) (i : Nat), ∃ f, mFind (akey j d k) (F.map ent4) i = some f ∧ (match fGet F j d k with | some t => ∃ n, f = some (i + n, .int .i64 t) | none => f = none) ∧
   ∀ t, (match f with | some (n, _) => (F.map ent4).set (n - i) (.tuple #[akey j d k, .int .i64 t]) | none => F.map ent4 ++ [.tuple #[akey j d k, .int .i64 t]]) = (fPut F j d k t).map ent4 := by
  intro F
  induction F with
  | nil => intro j d k i; exact ⟨none, rfl, rfl, fun t => rfl⟩
  | cons e F ih =>
   intro j d k i
   have hs := same_akey j d k e
   by_cases h : e.is j d k = true
   ·refine ⟨some (i, .int .i64 e.t), ?_, ?_, fun t => ?_⟩
    ·simp only [List.map_cons, ent4, mFind, hs, h]
    ·simp only [fGet, h, if_true]; exact ⟨0, rfl⟩
    ·simp only [fPut, h, if_true, Nat.sub_self]; rfl
   ·have h' : e.is j d k = false := by simpa using h
    obtain ⟨f, h1, h2, h3⟩ := ih j d k (Nat.succ i)
    refine ⟨f, ?_, ?_, fun t => ?_⟩
    ·simp only [List.map_cons, ent4, mFind, hs, h']; exact h1
    ·simp only [fGet, h', Bool.false_eq_true, if_false]
     split at h2
     ·rename_i t ht
      obtain ⟨n, rfl⟩ := h2
      exact ⟨n + 1, by congr 2; omega⟩
     ·exact h2
    ·have g := h3 t
     simp only [fPut, h', Bool.false_eq_true, if_false, List.map_cons]
     rw [← g]
     cases f with
     | none => rfl
     | some f =>
      obtain ⟨n, v⟩ := f
      have hn : Nat.succ i ≤ n := by
       split at h2
       ·obtain ⟨n', hn'⟩ := h2
        simp only [Option.some.injEq, Prod.mk.injEq] at hn'
        omega
       ·cases h2
      simp only
      rw [show n - i = (n - Nat.succ i) + 1 by omega]
      rfl
 intro F j d k i
 obtain ⟨f, h1, h2, h3⟩ := key F j d k i
 refine ⟨f, h1, h2, fun t hi => ?_⟩
 subst hi
 rw [← h3 t]
 cases f with
 | none => rfl
 | some f => obtain ⟨n, v⟩ := f; rfl
def failF (p : List Ev) : List Fl4 := p.foldl (fun F x => if x.kind = 3 then fPut F x.job x.due x.attempt x.at_ else F) []
theorem failF_snoc (p : List Ev) (x : Ev) : failF (p ++ [x]) = if x.kind = 3 then fPut (failF p) x.job x.due x.attempt x.at_ else failF p := by unfold failF; rw [List.foldl_append]; rfl
def lastF (p : List Ev) (j d k : Int) : Option Int := fGet (failF p) j d k
theorem lastF_snoc (p : List Ev) (x : Ev) (j d k : Int) : lastF (p ++ [x]) j d k = if x.kind = 3 ∧ j = x.job ∧ d = x.due ∧ k = x.attempt then some x.at_ else lastF p j d k := by
 unfold lastF
 rw [failF_snoc]
 by_cases h : x.kind = 3
 ·rw [if_pos h, fGet_put]
  by_cases g : j = x.job ∧ d = x.due ∧ k = x.attempt
  ·rw [if_pos g, if_pos ⟨h, g⟩]
  ·rw [if_neg g, if_neg (fun q => g q.2)]
 ·rw [if_neg h, if_neg (fun q => h q.1)]
def retF (seed : Int) (L : List JobR) (p : List Ev) (x : Ev) : Bool :=
 (decide (x.kind = 4) || (decide (x.kind = 1) && !decide (x.attempt = 1))) &&
 (match L[x.job.toNat]?, lastF p x.job x.due (x.attempt - 1) with
  | some J, some t => decide (J.pol.ret.max_ + 1 < x.attempt) || (decide ((nxt J.pol.ret seed J.name x.due (x.attempt - 1) t).2.2 ≠ 0) || (if x.kind = 1 then decide (x.at_ < (nxt J.pol.ret seed J.name x.due (x.attempt - 1) t).1) else (decide (x.at_ ≠ t) || decide (x.when_ ≠ (nxt J.pol.ret seed J.name x.due (x.attempt - 1) t).1))))
  | _, none => true
  | none, some _ => false)
theorem retF_no {seed : Int} {L : List JobR} {p : List Ev} {x : Ev} (h : x.kind ≠ 4) (h1 : x.kind = 1 → x.attempt = 1) : retF seed L p x = false := by
 unfold retF
 have e : (decide (x.kind = 4) || (decide (x.kind = 1) && !decide (x.attempt = 1))) = false := by
  simp [h]
  exact h1
 rw [e, Bool.false_and]
theorem retF_at {x : Ev} (h : x.kind = 4 ∨ (x.kind = 1 ∧ x.attempt ≠ 1)) : (decide (x.kind = 4) || (decide (x.kind = 1) && !decide (x.attempt = 1))) = true := by
 rcases h with h | ⟨h, h1⟩
 ·simp [h]
 ·simp [h, h1]
theorem retF_none {seed : Int} {L : List JobR} {p : List Ev} {x : Ev} (h : x.kind = 4 ∨ (x.kind = 1 ∧ x.attempt ≠ 1)) (hl : lastF p x.job x.due (x.attempt - 1) = none) : retF seed L p x = true := by
 unfold retF
 rw [retF_at h, hl]
 cases L[x.job.toNat]? <;> rfl
theorem retF_some {seed : Int} {L : List JobR} {p : List Ev} {x : Ev} {J : JobR} {t z e : Int} {b : Bool} (h : x.kind = 4 ∨ (x.kind = 1 ∧ x.attempt ≠ 1)) (hJ : L[x.job.toNat]? = some J) (hl : lastF p x.job x.due (x.attempt - 1) = some t) (hn : (z, b, e) = nxt J.pol.ret seed J.name x.due (x.attempt - 1) t) :
  retF seed L p x = (decide (J.pol.ret.max_ + 1 < x.attempt) || (decide (e ≠ 0) || (if x.kind = 1 then decide (x.at_ < z) else (decide (x.at_ ≠ t) || decide (x.when_ ≠ z))))) := by
 unfold retF
 rw [retF_at h, hl, hJ]
 simp only [← hn, Bool.true_and, Bool.or_assoc]
theorem retF_big {seed : Int} {L : List JobR} {p : List Ev} {x : Ev} {J : JobR} {t : Int} (h : x.kind = 4 ∨ (x.kind = 1 ∧ x.attempt ≠ 1)) (hJ : L[x.job.toNat]? = some J) (hl : lastF p x.job x.due (x.attempt - 1) = some t) (hb : J.pol.ret.max_ + 1 < x.attempt) : retF seed L p x = true := by
 rw [retF_some (z := (nxt J.pol.ret seed J.name x.due (x.attempt - 1) t).1) (b := (nxt J.pol.ret seed J.name x.due (x.attempt - 1) t).2.1) (e := (nxt J.pol.ret seed J.name x.due (x.attempt - 1) t).2.2) h hJ hl rfl]
 simp [hb]
theorem lastF_mem {j d k t : Int} : ∀ (n : Nat) (p : List Ev), p.length = n → lastF p j d k = some t → ∃ y ∈ p, y.at_ = t := by
 intro n
 induction n with
 | zero => intro p h hl; rw [List.length_eq_zero_iff.1 h] at hl; cases hl
 | succ n ih =>
  intro p h hl
  rcases List.eq_nil_or_concat p with h0 | ⟨q, x, h0⟩
  ·rw [h0] at h; cases h
  ·rw [List.concat_eq_append] at h0
   subst h0
   rw [List.length_append] at h
   rw [lastF_snoc] at hl
   split at hl
   ·cases hl; exact ⟨x, by simp, rfl⟩
   ·obtain ⟨y, hy, e⟩ := ih q (by simpa using h) hl
    exact ⟨y, List.mem_append_left _ hy, e⟩
end Go.Proofs.YtmpbddmbpeoehaaGreatDoor.Vc
namespace Go.Proofs.YtmpbddmbpeoehaaGreatDoor.Vc
def aRet_pre (a b c d s t u : Int) (p : Option Addr) (n cc : Nat) (p1 : Option Addr) (n1 c1 : Nat) (m : Mem) : Prop := ((Globs m glSp ∧ Globs m glMx) ∧ n1 ≤ 1000000) ∧ ∃ L l, JobsAt m p n L ∧ EvsAt m p1 n1 l
def aRet_post (a b c d s t u : Int) (p : Option Addr) (n cc : Nat) (p1 : Option Addr) (n1 c1 : Nat) (m : Mem) (q : Option Addr) (n2 c2 : Nat) (z : Int) : Prop := ∀ L l, JobsAt m p n L → EvsAt m p1 n1 l → z = auE a b c d t u L l ∧ RowM m q (flRow 8 (auI a b c d t u L l (retF s L))) ∧ n2 = (auI a b c d t u L l (retF s L)).length
def aRet : Sp := { args := [.i .i64, .i .i64, .i .i64, .i .i64, .i .u64, .i .i64, .i .i64, .sl, .sl], grp := [some 8, none], res := [.sl, .i .i64], rgrp := [none, none], fn := 11, spec := fun a0 a1 a2 a3 a4 a5 a6 a7 a8 a9 a10 a11 a12 => (aRet_pre a0 a1 a2 a3 a4 a5 a6 a7 a8 a9 a10 a11 a12, aRet_post a0 a1 a2 a3 a4 a5 a6 a7 a8 a9 a10 a11 a12) }
set_option maxRecDepth 20000 in
def aRet_VC : Prop := ∀ m : Mem, ∀ x0 : Int, mi ≤ x0 → x0 ≤ ma → ∀ x1 : Int, mi ≤ x1 → x1 ≤ ma → ∀ x2 : Int, mi ≤ x2 → x2 ≤ ma → ∀ x3 : Int, mi ≤ x3 → x3 ≤ ma → ∀ x4 : Int, IntKind.u64.min ≤ x4 → x4 ≤ IntKind.u64.max → ∀ x5 : Int, mi ≤ x5 → x5 ≤ ma → ∀ x6 : Int, mi ≤ x6 → x6 ≤ ma → ∀ (p0 : Option Addr) (n0 c0 : Nat), n0 ≤ 9223372036854775807 → c0 ≤ 9223372036854775807 → ∀ (p1 : Option Addr) (n1 c1 : Nat), n1 ≤ 9223372036854775807 → c1 ≤ 9223372036854775807 → aRet_pre x0 x1 x2 x3 x4 x5 x6 p0 n0 c0 p1 n1 c1 m →
 ((n0 ≤ 9223372036854775807 ∧ c0 ≤ 9223372036854775807) ∧ cChk_pre x0 x1 x2 x3 x4 x5 x6 (p0.map fun p => p.add 0) n0 c0 m ∧ ∀ m1 : Mem, MemSub m m1 → ∀ x11 : Int, mi ≤ x11 → x11 ≤ ma → cChk_post x0 x1 x2 x3 x4 x5 x6 (p0.map fun p => p.add 0) n0 c0 m1 x11 →
 ((x11 ≠ 0 →
 ((K.i64 x11) ∧ aRet_post x0 x1 x2 x3 x4 x5 x6 p0 n0 c0 p1 n1 c1 m1 none 0 0 x11)) ∧
 (x11 = 0 →
 ((n1 ≤ 9223372036854775807 ∧ c1 ≤ 9223372036854775807) ∧ tChk_pre (p1.map fun p => p.add 0) n1 c1 (n0 : Int) m1 ∧ ∀ m2 : Mem, MemSub m1 m2 → ∀ x12 : Int, mi ≤ x12 → x12 ≤ ma → ∀ x13 : Int, mi ≤ x13 → x13 ≤ ma → tChk_post (p1.map fun p => p.add 0) n1 c1 (n0 : Int) m2 x12 x13 →
 ((x13 ≠ 0 →
 ((K.i64 x13) ∧ aRet_post x0 x1 x2 x3 x4 x5 x6 p0 n0 c0 p1 n1 c1 m2 none 0 0 x13)) ∧
 (x13 = 0 →
 (∀ k2 : Nat, (∃ F3 : Option Addr → Nat → Nat → Int → List Value → List Value → Prop × Nat, ((K.i64 0) ∧ (F3 none 0 0 0 [] []).1) ∧
 ∀ (p3 : Option Addr) (n3 c3 : Nat), n3 ≤ 9223372036854775807 → c3 ≤ 9223372036854775807 → ∀ x16 : Int, mi ≤ x16 → x16 ≤ ma → ∀ r1 : List Value, ∀ r2 : List Value, (F3 p3 n3 c3 x16 r1 r2).1 →
 ((x16 < (n1 : Int) →
 (0 ≤ x16 ∧ (p1 ≠ none ∧ (HasI m2 p1 (0 + (x16 * 8)) 8 ∧ (∃ x17 : Int, cellI m2 p1 (0 + (x16 * 8)) = some (vI x17) ∧ (K.i64 x17) ∧ ((x17 = 3 →
 (∃ x18 : Int, cellI m2 p1 ((0 + (x16 * 8)) + 4) = some (vI x18) ∧ (K.i64 x18) ∧ (∃ x19 : Int, cellI m2 p1 ((0 + (x16 * 8)) + 1) = some (vI x19) ∧ (K.i64 x19) ∧ (∃ x20 : Int, cellI m2 p1 ((0 + (x16 * 8)) + 2) = some (vI x20) ∧ (K.i64 x20) ∧ (∃ x21 : Int, cellI m2 p1 ((0 + (x16 * 8)) + 3) = some (vI x21) ∧ (K.i64 x21) ∧ (∃ f : Option (Nat × Value), mFind (Value.agg (List.toArray [(vI x20), (vI x21), (vI x18)])) r2 0 = some f ∧ ∀ r3 : List Value, r3 = mSet f r2 (Value.agg (List.toArray [(vI x20), (vI x21), (vI x18)])) (vI x19) → ((x16 + 1) ≤ 9223372036854775807 ∧ ((n3 ≤ 9223372036854775807 ∧ c3 ≤ 9223372036854775807) ∧ (mi ≤ (x16 + 1) ∧ (x16 + 1) ≤ ma) ∧ ((F3 (p3.map fun p => p.add 0) n3 c3 (x16 + 1) r1 r3).1 ∧ (F3 (p3.map fun p => p.add 0) n3 c3 (x16 + 1) r1 r3).2 < (F3 p3 n3 c3 x16 r1 r2).2))))))))) ∧
 (x17 ≠ 3 →
 ((x17 ≠ 4 →
 ((x17 ≠ 1 →
 ((x16 + 1) ≤ 9223372036854775807 ∧ ((n3 ≤ 9223372036854775807 ∧ c3 ≤ 9223372036854775807) ∧ (mi ≤ (x16 + 1) ∧ (x16 + 1) ≤ ma) ∧ ((F3 (p3.map fun p => p.add 0) n3 c3 (x16 + 1) r1 r2).1 ∧ (F3 (p3.map fun p => p.add 0) n3 c3 (x16 + 1) r1 r2).2 < (F3 p3 n3 c3 x16 r1 r2).2)))) ∧
 (x17 = 1 →
 (∃ x18 : Int, cellI m2 p1 ((0 + (x16 * 8)) + 4) = some (vI x18) ∧ (K.i64 x18) ∧ ((x18 = 1 →
 ((x16 + 1) ≤ 9223372036854775807 ∧ ((n3 ≤ 9223372036854775807 ∧ c3 ≤ 9223372036854775807) ∧ (mi ≤ (x16 + 1) ∧ (x16 + 1) ≤ ma) ∧ ((F3 (p3.map fun p => p.add 0) n3 c3 (x16 + 1) r1 r2).1 ∧ (F3 (p3.map fun p => p.add 0) n3 c3 (x16 + 1) r1 r2).2 < (F3 p3 n3 c3 x16 r1 r2).2)))) ∧
 (x18 ≠ 1 →
 ((-9223372036854775808 : Int) ≤ (x18 - 1) ∧ (∃ x19 : Int, cellI m2 p1 ((0 + (x16 * 8)) + 2) = some (vI x19) ∧ (K.i64 x19) ∧ (∃ x20 : Int, cellI m2 p1 ((0 + (x16 * 8)) + 3) = some (vI x20) ∧ (K.i64 x20) ∧ (∃ f : Option (Nat × Value), mFind (Value.agg (List.toArray [(vI x19), (vI x20), (vI (x18 - 1))])) r2 0 = some f ∧ ∀ b0 : Bool, b0 = mIs f → ∃ r3 : List Value, mHas false f [(vI 0)] r3 ∧ (∃ x21 : Int, rowI r3 0 = some (vI x21) ∧ (K.i64 x21) ∧ (0 ≤ x19 ∧ (x19 < (n0 : Int) ∧ (p0 ≠ none ∧ (HasI m2 p0 (0 + (x19 * 30)) 30 ∧ ((b0 = false →
 ((2 * ((n3 : Int) + 1) * 16 ≤ 281474976710656) ∧ ∀ (p4 : Addr) (c4 : Nat) (r4 : List Value), r4 = r1 ++ [(vI 8), (vI x16)] → (n3 : Int) + 1 ≤ (c4 : Int) → c4 ≤ 9223372036854775807 → ((x16 + 1) ≤ 9223372036854775807 ∧ (((Int.toNat ((n3 : Int) + 1)) ≤ 9223372036854775807 ∧ c4 ≤ 9223372036854775807) ∧ (mi ≤ (x16 + 1) ∧ (x16 + 1) ≤ ma) ∧ ((F3 ((some p4).map fun p => p.add 0) (Int.toNat ((n3 : Int) + 1)) c4 (x16 + 1) r4 r2).1 ∧ (F3 ((some p4).map fun p => p.add 0) (Int.toNat ((n3 : Int) + 1)) c4 (x16 + 1) r4 r2).2 < (F3 p3 n3 c3 x16 r1 r2).2))))) ∧
 (b0 = true →
 (∃ x22 : Int, cellI m2 p0 ((0 + (x19 * 30)) + 26) = some (vI x22) ∧ (K.i64 x22) ∧ ((x22 + 1) ≤ 9223372036854775807 ∧ (((x22 + 1) < x18 →
 ((2 * ((n3 : Int) + 1) * 16 ≤ 281474976710656) ∧ ∀ (p4 : Addr) (c4 : Nat) (r4 : List Value), r4 = r1 ++ [(vI 8), (vI x16)] → (n3 : Int) + 1 ≤ (c4 : Int) → c4 ≤ 9223372036854775807 → ((x16 + 1) ≤ 9223372036854775807 ∧ (((Int.toNat ((n3 : Int) + 1)) ≤ 9223372036854775807 ∧ c4 ≤ 9223372036854775807) ∧ (mi ≤ (x16 + 1) ∧ (x16 + 1) ≤ ma) ∧ ((F3 ((some p4).map fun p => p.add 0) (Int.toNat ((n3 : Int) + 1)) c4 (x16 + 1) r4 r2).1 ∧ (F3 ((some p4).map fun p => p.add 0) (Int.toNat ((n3 : Int) + 1)) c4 (x16 + 1) r4 r2).2 < (F3 p3 n3 c3 x16 r1 r2).2))))) ∧
 (x18 ≤ (x22 + 1) →
 (∃ s0 : List UInt8, cellI m2 p0 (0 + (x19 * 30)) = some (Value.string ⟨List.toArray s0⟩) ∧ ((-9223372036854775808 : Int) ≤ (x18 - 1) ∧ (∃ x23 : Int, cellI m2 p0 ((0 + (x19 * 30)) + 27) = some (vI x23) ∧ (K.i64 x23) ∧ (∃ x24 : Int, cellI m2 p0 ((0 + (x19 * 30)) + 28) = some (vI x24) ∧ (K.i64 x24) ∧ (∃ x25 : Int, cellI m2 p0 ((0 + (x19 * 30)) + 29) = some (vI x25) ∧ (K.i64 x25) ∧ ((-9223372036854775808 : Int) ≤ (x18 - 1) ∧ (rtN_pre x22 x23 x24 x25 x4 s0 x20 (x18 - 1) x21 m2 ∧ ∀ m4 : Mem, MemSub m2 m4 → ∀ x26 : Int, mi ≤ x26 → x26 ≤ ma → ∀ b1 : Bool, ∀ x27 : Int, mi ≤ x27 → x27 ≤ ma → rtN_post x22 x23 x24 x25 x4 s0 x20 (x18 - 1) x21 m4 x26 b1 x27 →
 ((x27 ≠ 0 →
 ((2 * ((n3 : Int) + 1) * 16 ≤ 281474976710656) ∧ ∀ (p4 : Addr) (c4 : Nat) (r4 : List Value), r4 = r1 ++ [(vI 8), (vI x16)] → (n3 : Int) + 1 ≤ (c4 : Int) → c4 ≤ 9223372036854775807 → ((x16 + 1) ≤ 9223372036854775807 ∧ (((Int.toNat ((n3 : Int) + 1)) ≤ 9223372036854775807 ∧ c4 ≤ 9223372036854775807) ∧ (mi ≤ (x16 + 1) ∧ (x16 + 1) ≤ ma) ∧ ((F3 ((some p4).map fun p => p.add 0) (Int.toNat ((n3 : Int) + 1)) c4 (x16 + 1) r4 r2).1 ∧ (F3 ((some p4).map fun p => p.add 0) (Int.toNat ((n3 : Int) + 1)) c4 (x16 + 1) r4 r2).2 < (F3 p3 n3 c3 x16 r1 r2).2))))) ∧
 (x27 = 0 →
 (∃ x28 : Int, cellI m4 p1 ((0 + (x16 * 8)) + 1) = some (vI x28) ∧ (K.i64 x28) ∧ ((x28 < x26 →
 ((2 * ((n3 : Int) + 1) * 16 ≤ 281474976710656) ∧ ∀ (p4 : Addr) (c4 : Nat) (r4 : List Value), r4 = r1 ++ [(vI 8), (vI x16)] → (n3 : Int) + 1 ≤ (c4 : Int) → c4 ≤ 9223372036854775807 → ((x16 + 1) ≤ 9223372036854775807 ∧ (((Int.toNat ((n3 : Int) + 1)) ≤ 9223372036854775807 ∧ c4 ≤ 9223372036854775807) ∧ (mi ≤ (x16 + 1) ∧ (x16 + 1) ≤ ma) ∧ ((F3 ((some p4).map fun p => p.add 0) (Int.toNat ((n3 : Int) + 1)) c4 (x16 + 1) r4 r2).1 ∧ (F3 ((some p4).map fun p => p.add 0) (Int.toNat ((n3 : Int) + 1)) c4 (x16 + 1) r4 r2).2 < (F3 p3 n3 c3 x16 r1 r2).2))))) ∧
 (x26 ≤ x28 →
 ((x16 + 1) ≤ 9223372036854775807 ∧ ((n3 ≤ 9223372036854775807 ∧ c3 ≤ 9223372036854775807) ∧ (mi ≤ (x16 + 1) ∧ (x16 + 1) ≤ ma) ∧ ((F3 (p3.map fun p => p.add 0) n3 c3 (x16 + 1) r1 r2).1 ∧ (F3 (p3.map fun p => p.add 0) n3 c3 (x16 + 1) r1 r2).2 < (F3 p3 n3 c3 x16 r1 r2).2)))))))))))))))))))))))))))))))))))) ∧
 (x17 = 4 →
 (∃ x18 : Int, cellI m2 p1 ((0 + (x16 * 8)) + 4) = some (vI x18) ∧ (K.i64 x18) ∧ ((-9223372036854775808 : Int) ≤ (x18 - 1) ∧ (∃ x19 : Int, cellI m2 p1 ((0 + (x16 * 8)) + 2) = some (vI x19) ∧ (K.i64 x19) ∧ (∃ x20 : Int, cellI m2 p1 ((0 + (x16 * 8)) + 3) = some (vI x20) ∧ (K.i64 x20) ∧ (∃ f : Option (Nat × Value), mFind (Value.agg (List.toArray [(vI x19), (vI x20), (vI (x18 - 1))])) r2 0 = some f ∧ ∀ b0 : Bool, b0 = mIs f → ∃ r3 : List Value, mHas false f [(vI 0)] r3 ∧ (∃ x21 : Int, rowI r3 0 = some (vI x21) ∧ (K.i64 x21) ∧ (0 ≤ x19 ∧ (x19 < (n0 : Int) ∧ (p0 ≠ none ∧ (HasI m2 p0 (0 + (x19 * 30)) 30 ∧ ((b0 = false →
 ((2 * ((n3 : Int) + 1) * 16 ≤ 281474976710656) ∧ ∀ (p4 : Addr) (c4 : Nat) (r4 : List Value), r4 = r1 ++ [(vI 8), (vI x16)] → (n3 : Int) + 1 ≤ (c4 : Int) → c4 ≤ 9223372036854775807 → ((x16 + 1) ≤ 9223372036854775807 ∧ (((Int.toNat ((n3 : Int) + 1)) ≤ 9223372036854775807 ∧ c4 ≤ 9223372036854775807) ∧ (mi ≤ (x16 + 1) ∧ (x16 + 1) ≤ ma) ∧ ((F3 ((some p4).map fun p => p.add 0) (Int.toNat ((n3 : Int) + 1)) c4 (x16 + 1) r4 r2).1 ∧ (F3 ((some p4).map fun p => p.add 0) (Int.toNat ((n3 : Int) + 1)) c4 (x16 + 1) r4 r2).2 < (F3 p3 n3 c3 x16 r1 r2).2))))) ∧
 (b0 = true →
 (∃ x22 : Int, cellI m2 p0 ((0 + (x19 * 30)) + 26) = some (vI x22) ∧ (K.i64 x22) ∧ ((x22 + 1) ≤ 9223372036854775807 ∧ (((x22 + 1) < x18 →
 ((2 * ((n3 : Int) + 1) * 16 ≤ 281474976710656) ∧ ∀ (p4 : Addr) (c4 : Nat) (r4 : List Value), r4 = r1 ++ [(vI 8), (vI x16)] → (n3 : Int) + 1 ≤ (c4 : Int) → c4 ≤ 9223372036854775807 → ((x16 + 1) ≤ 9223372036854775807 ∧ (((Int.toNat ((n3 : Int) + 1)) ≤ 9223372036854775807 ∧ c4 ≤ 9223372036854775807) ∧ (mi ≤ (x16 + 1) ∧ (x16 + 1) ≤ ma) ∧ ((F3 ((some p4).map fun p => p.add 0) (Int.toNat ((n3 : Int) + 1)) c4 (x16 + 1) r4 r2).1 ∧ (F3 ((some p4).map fun p => p.add 0) (Int.toNat ((n3 : Int) + 1)) c4 (x16 + 1) r4 r2).2 < (F3 p3 n3 c3 x16 r1 r2).2))))) ∧
 (x18 ≤ (x22 + 1) →
 (∃ s0 : List UInt8, cellI m2 p0 (0 + (x19 * 30)) = some (Value.string ⟨List.toArray s0⟩) ∧ ((-9223372036854775808 : Int) ≤ (x18 - 1) ∧ (∃ x23 : Int, cellI m2 p0 ((0 + (x19 * 30)) + 27) = some (vI x23) ∧ (K.i64 x23) ∧ (∃ x24 : Int, cellI m2 p0 ((0 + (x19 * 30)) + 28) = some (vI x24) ∧ (K.i64 x24) ∧ (∃ x25 : Int, cellI m2 p0 ((0 + (x19 * 30)) + 29) = some (vI x25) ∧ (K.i64 x25) ∧ ((-9223372036854775808 : Int) ≤ (x18 - 1) ∧ (rtN_pre x22 x23 x24 x25 x4 s0 x20 (x18 - 1) x21 m2 ∧ ∀ m4 : Mem, MemSub m2 m4 → ∀ x26 : Int, mi ≤ x26 → x26 ≤ ma → ∀ b1 : Bool, ∀ x27 : Int, mi ≤ x27 → x27 ≤ ma → rtN_post x22 x23 x24 x25 x4 s0 x20 (x18 - 1) x21 m4 x26 b1 x27 →
 ((x27 ≠ 0 →
 ((2 * ((n3 : Int) + 1) * 16 ≤ 281474976710656) ∧ ∀ (p4 : Addr) (c4 : Nat) (r4 : List Value), r4 = r1 ++ [(vI 8), (vI x16)] → (n3 : Int) + 1 ≤ (c4 : Int) → c4 ≤ 9223372036854775807 → ((x16 + 1) ≤ 9223372036854775807 ∧ (((Int.toNat ((n3 : Int) + 1)) ≤ 9223372036854775807 ∧ c4 ≤ 9223372036854775807) ∧ (mi ≤ (x16 + 1) ∧ (x16 + 1) ≤ ma) ∧ ((F3 ((some p4).map fun p => p.add 0) (Int.toNat ((n3 : Int) + 1)) c4 (x16 + 1) r4 r2).1 ∧ (F3 ((some p4).map fun p => p.add 0) (Int.toNat ((n3 : Int) + 1)) c4 (x16 + 1) r4 r2).2 < (F3 p3 n3 c3 x16 r1 r2).2))))) ∧
 (x27 = 0 →
 (∃ x28 : Int, cellI m4 p1 ((0 + (x16 * 8)) + 1) = some (vI x28) ∧ (K.i64 x28) ∧ ((x28 ≠ x21 →
 ((2 * ((n3 : Int) + 1) * 16 ≤ 281474976710656) ∧ ∀ (p4 : Addr) (c4 : Nat) (r4 : List Value), r4 = r1 ++ [(vI 8), (vI x16)] → (n3 : Int) + 1 ≤ (c4 : Int) → c4 ≤ 9223372036854775807 → ((x16 + 1) ≤ 9223372036854775807 ∧ (((Int.toNat ((n3 : Int) + 1)) ≤ 9223372036854775807 ∧ c4 ≤ 9223372036854775807) ∧ (mi ≤ (x16 + 1) ∧ (x16 + 1) ≤ ma) ∧ ((F3 ((some p4).map fun p => p.add 0) (Int.toNat ((n3 : Int) + 1)) c4 (x16 + 1) r4 r2).1 ∧ (F3 ((some p4).map fun p => p.add 0) (Int.toNat ((n3 : Int) + 1)) c4 (x16 + 1) r4 r2).2 < (F3 p3 n3 c3 x16 r1 r2).2))))) ∧
 (x28 = x21 →
 (∃ x29 : Int, cellI m4 p1 ((0 + (x16 * 8)) + 7) = some (vI x29) ∧ (K.i64 x29) ∧ ((x29 ≠ x26 →
 ((2 * ((n3 : Int) + 1) * 16 ≤ 281474976710656) ∧ ∀ (p4 : Addr) (c4 : Nat) (r4 : List Value), r4 = r1 ++ [(vI 8), (vI x16)] → (n3 : Int) + 1 ≤ (c4 : Int) → c4 ≤ 9223372036854775807 → ((x16 + 1) ≤ 9223372036854775807 ∧ (((Int.toNat ((n3 : Int) + 1)) ≤ 9223372036854775807 ∧ c4 ≤ 9223372036854775807) ∧ (mi ≤ (x16 + 1) ∧ (x16 + 1) ≤ ma) ∧ ((F3 ((some p4).map fun p => p.add 0) (Int.toNat ((n3 : Int) + 1)) c4 (x16 + 1) r4 r2).1 ∧ (F3 ((some p4).map fun p => p.add 0) (Int.toNat ((n3 : Int) + 1)) c4 (x16 + 1) r4 r2).2 < (F3 p3 n3 c3 x16 r1 r2).2))))) ∧
 (x29 = x26 →
 ((x16 + 1) ≤ 9223372036854775807 ∧ ((n3 ≤ 9223372036854775807 ∧ c3 ≤ 9223372036854775807) ∧ (mi ≤ (x16 + 1) ∧ (x16 + 1) ≤ ma) ∧ ((F3 (p3.map fun p => p.add 0) n3 c3 (x16 + 1) r1 r2).1 ∧ (F3 (p3.map fun p => p.add 0) n3 c3 (x16 + 1) r1 r2).2 < (F3 p3 n3 c3 x16 r1 r2).2))))))))))))))))))))))))))))))))))))))))))) ∧
 ((n1 : Int) ≤ x16 →
 (∀ m4 : Mem, MemSub m2 m4 → RowAt m4 p3 r1 → ((n3 ≤ 9223372036854775807 ∧ c3 ≤ 9223372036854775807) ∧ (K.i64 0) ∧ aRet_post x0 x1 x2 x3 x4 x5 x6 p0 n0 c0 p1 n1 c1 m4 (p3.map fun p => p.add 0) n3 c3 0))))))))))))
set_option maxRecDepth 20000 in
set_option maxHeartbeats 4000000 in
theorem aRet_vc : aRet_VC := by
 intro m x0 _ _ x1 _ _ x2 _ _ x3 _ _ x4 _ _ x5 k5 k5' x6 k6 k6' p0 n0 c0 hn0 hc0 p1 n1 c1 hn1 hc1 ⟨⟨⟨hgl, hgm⟩, hb⟩, L, l, hL, hl⟩
 have hLn := hL.1
 have hln := hl.1
 have ps : ∀ (m' : Mem) (q : Option Addr) (n2 c2 : Nat) (z : Int), MemSub m m' → z = auE x0 x1 x2 x3 x5 x6 L l → RowM m' q (flRow 8 (auI x0 x1 x2 x3 x5 x6 L l (retF x4 L))) → n2 = (auI x0 x1 x2 x3 x5 x6 L l (retF x4 L)).length → aRet_post x0 x1 x2 x3 x4 x5 x6 p0 n0 c0 p1 n1 c1 m' q n2 c2 z := by
  intro m' q n2 c2 z h e1 e2 e3 L' l' hL' hl'
  rw [← hL.uniq h hL', ← hl.uniq h hl']
  exact ⟨e1, e2, e3⟩
 have none_ : ∀ m' : Mem, RowM m' none [] := fun m' => ⟨(fun p h => by cases h), fun _ => rfl⟩
 refine ⟨⟨hn0, hc0⟩, ⟨hgl, L, by rw [map_add0]; exact hL⟩, fun m1 hm1 e ek1 ek2 he => ?_⟩
 rw [map_add0] at he
 have he : e = cfgE x0 x1 x2 x3 x5 x6 L := he L (hL.sub hm1)
 refine ⟨fun hne => ?_, fun h0 => ?_⟩
 ·have ha : auE x0 x1 x2 x3 x5 x6 L l = e := by unfold auE; rw [← he, if_pos hne]
  have hi : auI x0 x1 x2 x3 x5 x6 L l (retF x4 L) = [] := by unfold auI; rw [ha, if_neg hne]
  exact ⟨⟨ek1, ek2⟩, ps m1 none 0 0 e hm1 ha.symm (by rw [hi]; exact none_ _) (by rw [hi]; rfl)⟩
 have hc : cfgE x0 x1 x2 x3 x5 x6 L = 0 := by rw [← he]; exact h0
 refine ⟨⟨hn1, hc1⟩, ?_⟩
 rw [map_add0]
 refine ⟨⟨l, hl.sub hm1⟩, fun m2 hm2 y yk1 yk2 g gk1 gk2 hg => ?_⟩
 have hg0 : (y, g) = trcE (n0 : Int) l := hg l (hl.sub hm1 |>.sub hm2)
 have ha : auE x0 x1 x2 x3 x5 x6 L l = g := by unfold auE; rw [if_neg (by rw [hc]; simp), hLn, ← hg0]
 refine ⟨fun hne => ?_, fun g0 => ?_⟩
 ·have hi : auI x0 x1 x2 x3 x5 x6 L l (retF x4 L) = [] := by unfold auI; rw [ha, if_neg hne]
  exact ⟨⟨gk1, gk2⟩, ps m2 none 0 0 g (hm1.trans hm2) ha.symm (by rw [hi]; exact none_ _) (by rw [hi]; rfl)⟩
 rw [g0] at hg0 ha
 have hi : auI x0 x1 x2 x3 x5 x6 L l (retF x4 L) = idxs (marks (retF x4 L) l l.length) 0 := by unfold auI; rw [ha, if_pos rfl]
 obtain ⟨hjl, hev⟩ := trcE_ok hg0
 obtain ⟨h64, _, hjob⟩ := cfg_ok hc
 have hL2 := (hL.sub hm1).sub hm2
 have hl2 := (hl.sub hm1).sub hm2
 have hgm2 := (hgm.sub hm1).sub hm2
 have kz : K.i64 0 := by constructor <;> decide
 intro k2
 generalize hf : retF x4 L = f at *
 refine ⟨fun p3 n3 c3 y r1 r2 => (∃ i : Nat, y = i ∧ i ≤ l.length ∧ r1 = flRow 8 (idxs (marks f l i) 0) ∧ n3 = (idxs (marks f l i) 0).length ∧ (p3 = none → r1 = []) ∧ r2 = (failF (l.take i)).map ent4, ((n1 : Int) - y).toNat), ⟨kz, 0, rfl, Nat.zero_le _, rfl, rfl, fun _ => rfl, rfl⟩, ?_⟩
 rintro p3 n3 c3 hn3 hc3 y _ _ r1 r2 ⟨i, rfl, hi0, hr1, hn3e, hp3, rfl⟩
 have hm := idx_marks_len f l i
 refine ⟨fun hlt => ?_, fun hge => ?_⟩
 ·obtain ⟨x, hx, hp, hat, hhas⟩ := hl2.at_ (i := (i : Int)) (by omega) hlt
  rw [Int.toNat_natCast] at hx
  have hil := (List.getElem?_eq_some_iff.1 hx).1
  obtain ⟨q1, q2, q3, q4, q5, q6, q7, q8⟩ := hat
  obtain ⟨hvP, hvj, _⟩ := evErr_valid (hev i x hx)
  have htk : l.take (i + 1) = l.take i ++ [x] := by
   obtain ⟨hi2, e⟩ := List.getElem?_eq_some_iff.1 hx
   rw [← e, List.take_append_getElem]
  have hfk : x.kind ≠ 3 → (failF (l.take i)).map ent4 = (failF (l.take (i + 1))).map ent4 := fun h => by rw [htk, failF_snoc, if_neg h]
  have hit : x.kind ≠ 3 → f (l.take i) x = true → (2 * ((n3 : Int) + 1) * 16 ≤ 281474976710656) ∧ ∀ (p4 : Addr) (c4 : Nat) (r4 : List Value), r4 = r1 ++ [.int .i64 8, .int .i64 (i : Int)] → (n3 : Int) + 1 ≤ (c4 : Int) → c4 ≤ 9223372036854775807 → (((i : Int) + 1) ≤ 9223372036854775807 ∧ (((Int.toNat ((n3 : Int) + 1)) ≤ 9223372036854775807 ∧ c4 ≤ 9223372036854775807) ∧ (IntKind.i64.min ≤ ((i : Int) + 1) ∧ ((i : Int) + 1) ≤ IntKind.i64.max) ∧
    ((∃ i' : Nat, (i : Int) + 1 = i' ∧ i' ≤ l.length ∧ r4 = flRow 8 (idxs (marks f l i') 0) ∧ Int.toNat ((n3 : Int) + 1) = (idxs (marks f l i') 0).length ∧ (((some p4).map fun p => p.add 0) = none → r4 = []) ∧ (failF (l.take i)).map ent4 = (failF (l.take i')).map ent4) ∧ ((n1 : Int) - ((i : Int) + 1)).toNat < ((n1 : Int) - (i : Int)).toNat))) := by
   intro hk hb
   have e := marks_hit (f := f) hx hb
   refine ⟨by omega, fun p4 c4 r4 hr4 g1 g2 => ⟨by omega, ⟨by omega, g2⟩, k64 (by omega) (by omega), ⟨i + 1, by omega, by omega, ?_, ?_, (fun h => by cases h), hfk hk⟩, by omega⟩⟩
   ·rw [hr4, e, flRow_app, hr1]
   ·rw [e, List.length_append, ← hn3e]; simp
  have mis : x.kind ≠ 3 → f (l.take i) x = false → (((i : Int) + 1) ≤ 9223372036854775807 ∧ ((n3 ≤ 9223372036854775807 ∧ c3 ≤ 9223372036854775807) ∧ (IntKind.i64.min ≤ ((i : Int) + 1) ∧ ((i : Int) + 1) ≤ IntKind.i64.max) ∧
    ((∃ i' : Nat, (i : Int) + 1 = i' ∧ i' ≤ l.length ∧ r1 = flRow 8 (idxs (marks f l i') 0) ∧ n3 = (idxs (marks f l i') 0).length ∧ ((p3.map fun p => p.add 0) = none → r1 = []) ∧ (failF (l.take i)).map ent4 = (failF (l.take i')).map ent4) ∧ ((n1 : Int) - ((i : Int) + 1)).toNat < ((n1 : Int) - (i : Int)).toNat))) := by
   intro hk hb
   have e := marks_miss (f := f) hx hb
   rw [map_add0]
   exact ⟨by omega, ⟨hn3, hc3⟩, k64 (by omega) (by omega), ⟨i + 1, by omega, by omega, by rw [e]; exact hr1, by rw [e]; exact hn3e, hp3, hfk hk⟩, by omega⟩
  have hno : x.kind ≠ 4 → (x.kind = 1 → x.attempt = 1) → f (l.take i) x = false := fun g1 g2 => by rw [← hf]; exact retF_no g1 g2
  refine ⟨by omega, hp, hhas, x.kind, q1.1, q1.2, fun h3 => ?_, fun h3 => ⟨fun h4 => ⟨fun h1 => mis h3 (hno h4 (fun g => (h1 g).elim)), fun h1 => ?_⟩, fun h4 => ?_⟩⟩
  ·-- a failure
   obtain ⟨ff, hff, _, hset⟩ := mf4 (failF (l.take i)) x.job x.due x.attempt 0
   have e := marks_miss (f := f) hx (hno (by omega) (fun g => by omega))
   refine ⟨x.attempt, q5.1, q5.2, x.at_, q2.1, q2.2, x.job, q3.1, q3.2, x.due, q4.1, q4.2, ff, hff, fun r3 hr3 => ⟨by omega, ⟨hn3, hc3⟩, k64 (by omega) (by omega), ⟨i + 1, by omega, by omega, by rw [e]; exact hr1, by rw [e]; exact hn3e, by rw [map_add0]; exact hp3, ?_⟩, by first | omega | (simp only; omega)⟩⟩
   rw [hr3, htk, failF_snoc, if_pos h3]
   exact hset _ rfl
  ·-- a launch
   refine ⟨x.attempt, q5.1, q5.2, fun ha1 => mis h3 (hno h4 (fun _ => ha1)), fun ha1 => ?_⟩
   have hk6 : x.kind ≠ 6 := by omega
   have hj0 := evP_job hvP hk6
   have hj1 := hvj hk6
   obtain ⟨J, hJ, ⟨hJp, hJh⟩, hJn, _, hJpol⟩ := hL2.at_ (i := x.job) hj0 (by omega)
   have hJm := List.mem_of_getElem? hJ
   have hret : As.retP_ J.pol.ret = 0 := pol_ret (hjob J hJm).1
   have hmx := ret_ok hret
   have hkind : x.kind = 4 ∨ (x.kind = 1 ∧ x.attempt ≠ 1) := .inr ⟨h1, ha1⟩
   obtain ⟨ff, hff, hfm, _⟩ := mf4 (failF (l.take i)) x.job x.due (x.attempt - 1) 0
   have hat2 : K.i64 x.attempt := q5.2
   have hat3 : 2 ≤ x.attempt := ev_att hvP hkind
   cases hlf : lastF (l.take i) x.job x.due (x.attempt - 1) with
   | none =>
    have hlf' : fGet (failF (l.take i)) x.job x.due (x.attempt - 1) = none := hlf
    rw [hlf'] at hfm
    have hfm : ff = none := hfm
    subst hfm
    refine ⟨by omega, x.job, q3.1, q3.2, x.due, q4.1, q4.2, none, hff, fun b0 hb0 => ⟨[.int .i64 0], ⟨rfl, by simp [oneV], rfl⟩, 0, rfl, kz, hj0, by omega, hJp, hJh, fun _ => hit h3 (by rw [← hf]; exact retF_none hkind hlf), fun h => by rw [hb0] at h; cases h⟩⟩
   | some t =>
    have hlf' : fGet (failF (l.take i)) x.job x.due (x.attempt - 1) = some t := hlf
    rw [hlf'] at hfm
    obtain ⟨nn, hfm⟩ := hfm
    subst hfm
    obtain ⟨yy, hyy, hyt⟩ := lastF_mem _ (l.take i) rfl hlf
    have htr : 0 ≤ t ∧ t ≤ 253402300799 := by
     obtain ⟨jj, hjj⟩ := List.getElem?_of_mem hyy
     have hjjl := (List.getElem?_eq_some_iff.1 hjj).1
     rw [List.length_take] at hjjl
     rw [List.getElem?_take_of_lt (by omega)] at hjj
     have := evP_time (evErr_valid (hev jj yy hjj)).1
     omega
    obtain ⟨_, _, _, _, _, _, _, _, _, _, _, g26, g27, g28, g29⟩ := hJpol
    refine ⟨by omega, x.job, q3.1, q3.2, x.due, q4.1, q4.2, _, hff, fun b0 hb0 => ⟨[.int .i64 t], ⟨rfl, by simp [oneV], rfl⟩, t, rfl, k64 (by omega) (by omega), hj0, by omega, hJp, hJh, (fun h => by rw [hb0] at h; cases h), fun _ => ⟨J.pol.ret.max_, g26.1, g26.2, by omega, fun hbig => hit h3 (by rw [← hf]; exact retF_big hkind hJ hlf hbig), fun hle => ⟨J.name, hJn.1, by omega, J.pol.ret.base, g27.1, g27.2, J.pol.ret.cap, g28.1, g28.2, J.pol.ret.jit, g29.1, g29.2, by omega, ⟨hgm2, hJn.2⟩, fun m4 hm4 z _ _ b1 e _ _ hN => ?_⟩⟩⟩⟩
    have hR := retF_some (seed := x4) hkind hJ hlf (show (z, b1, e) = nxt J.pol.ret x4 J.name x.due (x.attempt - 1) t from hN)
    rw [hf] at hR
    have hnb : decide (J.pol.ret.max_ + 1 < x.attempt) = false := decide_eq_false (by omega)
    rw [hnb, Bool.false_or] at hR
    refine ⟨fun hne => hit h3 (by rw [hR]; simp [hne]), fun he0 => ?_⟩
    rw [he0] at hR
    rw [if_pos h1] at hR
    exact ⟨x.at_, (q2.sub hm4).1, q2.2, fun hlt => hit h3 (by rw [hR]; simp [hlt]), fun hge => mis h3 (by rw [hR]; simp [hge])⟩
  ·-- a retry that is announced
   have hk6 : x.kind ≠ 6 := by omega
   have hj0 := evP_job hvP hk6
   have hj1 := hvj hk6
   obtain ⟨J, hJ, ⟨hJp, hJh⟩, hJn, _, hJpol⟩ := hL2.at_ (i := x.job) hj0 (by omega)
   have hJm := List.mem_of_getElem? hJ
   have hret : As.retP_ J.pol.ret = 0 := pol_ret (hjob J hJm).1
   have hmx := ret_ok hret
   have hkind : x.kind = 4 ∨ (x.kind = 1 ∧ x.attempt ≠ 1) := .inl h4
   obtain ⟨ff, hff, hfm, _⟩ := mf4 (failF (l.take i)) x.job x.due (x.attempt - 1) 0
   have hat2 : K.i64 x.attempt := q5.2
   have hat3 : 2 ≤ x.attempt := ev_att hvP hkind
   cases hlf : lastF (l.take i) x.job x.due (x.attempt - 1) with
   | none =>
    have hlf' : fGet (failF (l.take i)) x.job x.due (x.attempt - 1) = none := hlf
    rw [hlf'] at hfm
    have hfm : ff = none := hfm
    subst hfm
    refine ⟨x.attempt, q5.1, q5.2, by omega, x.job, q3.1, q3.2, x.due, q4.1, q4.2, none, hff, fun b0 hb0 => ⟨[.int .i64 0], ⟨rfl, by simp [oneV], rfl⟩, 0, rfl, kz, hj0, by omega, hJp, hJh, fun _ => hit h3 (by rw [← hf]; exact retF_none hkind hlf), fun h => by rw [hb0] at h; cases h⟩⟩
   | some t =>
    have hlf' : fGet (failF (l.take i)) x.job x.due (x.attempt - 1) = some t := hlf
    rw [hlf'] at hfm
    obtain ⟨nn, hfm⟩ := hfm
    subst hfm
    obtain ⟨yy, hyy, hyt⟩ := lastF_mem _ (l.take i) rfl hlf
    have htr : 0 ≤ t ∧ t ≤ 253402300799 := by
     obtain ⟨jj, hjj⟩ := List.getElem?_of_mem hyy
     have hjjl := (List.getElem?_eq_some_iff.1 hjj).1
     rw [List.length_take] at hjjl
     rw [List.getElem?_take_of_lt (by omega)] at hjj
     have := evP_time (evErr_valid (hev jj yy hjj)).1
     omega
    obtain ⟨_, _, _, _, _, _, _, _, _, _, _, g26, g27, g28, g29⟩ := hJpol
    refine ⟨x.attempt, q5.1, q5.2, by omega, x.job, q3.1, q3.2, x.due, q4.1, q4.2, _, hff, fun b0 hb0 => ⟨[.int .i64 t], ⟨rfl, by simp [oneV], rfl⟩, t, rfl, k64 (by omega) (by omega), hj0, by omega, hJp, hJh, (fun h => by rw [hb0] at h; cases h), fun _ => ⟨J.pol.ret.max_, g26.1, g26.2, by omega, fun hbig => hit h3 (by rw [← hf]; exact retF_big hkind hJ hlf hbig), fun hle => ⟨J.name, hJn.1, by omega, J.pol.ret.base, g27.1, g27.2, J.pol.ret.cap, g28.1, g28.2, J.pol.ret.jit, g29.1, g29.2, by omega, ⟨hgm2, hJn.2⟩, fun m4 hm4 z _ _ b1 e _ _ hN => ?_⟩⟩⟩⟩
    have hR := retF_some (seed := x4) hkind hJ hlf (show (z, b1, e) = nxt J.pol.ret x4 J.name x.due (x.attempt - 1) t from hN)
    rw [hf] at hR
    have hnb : decide (J.pol.ret.max_ + 1 < x.attempt) = false := decide_eq_false (by omega)
    rw [hnb, Bool.false_or] at hR
    refine ⟨fun hne => hit h3 (by rw [hR]; simp [hne]), fun he0 => ?_⟩
    rw [he0] at hR
    rw [if_neg (by omega)] at hR
    refine ⟨x.at_, (q2.sub hm4).1, q2.2, fun hne => hit h3 (by rw [hR]; simp [hne]), fun heq => ⟨x.when_, (q8.sub hm4).1, q8.2, fun hne => hit h3 (by rw [hR]; simp [hne]), fun heq2 => mis h3 (by rw [hR]; simp [heq, heq2])⟩⟩
 ·obtain rfl : i = l.length := by omega
  intro m4 hm4 hrow
  rw [map_add0]
  refine ⟨⟨hn3, hc3⟩, kz, ps m4 p3 n3 c3 0 ((hm1.trans hm2).trans hm4) ha.symm ?_ ?_⟩
  ·rw [hi, ← hr1]; exact ⟨hrow, hp3⟩
  ·rw [hi]; exact hn3e
theorem aRet_pg : ∀ m, forallF aRet.args aRet.spec fun r => r.1 m → GlobsAt m [] := fun m a b c d e f g h i j k l n o => trivial
set_option maxRecDepth 20000 in
theorem aRet_ok : SpOk Tryz.prog aRet :=
 con_okZ [] [] [] rfl (sps_of [cChk, tChk, rtN] ⟨cChk_ok, ⟨tChk_ok, ⟨rtN_ok, trivial⟩⟩⟩ rfl) (tab_okM _ [⟨(29, 3), [], [], [(7, 39)], [2]⟩] [88]) 1000 aRet _ rfl rfl aRet_pg (Eq.mp (show aRet_VC = _ by kernel_rfl) aRet_vc)
end Go.Proofs.YtmpbddmbpeoehaaGreatDoor.Vc
