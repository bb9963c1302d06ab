/-
  Due times: what is known of an occurrence behind some events, in a map; outcomes that are not due, and that come too often: plain; audit.Dues of one job that is due at a fixed period: parts of its condition; Contracts, by their trees.
-/
import Derived.Test.YtjabmipkllkfbaaGreatDoorYN
import Derived.Test.YtjabmipkllkfbaaGreatDoorYO
import Derived.Test.YtjabmipkllkfbaaGreatDoorYF
set_option linter.unusedVariables false
set_option linter.unusedSimpArgs false
namespace Go.Proofs.YtjabmipkllkfbaaGreatDoor.Vc
open As
structure Life where
 b : Int
 e : Int
 u : Int
structure LifeE where
 j : Int
 d : Int
 l : Life
def okey (j d : Int) : Value := .agg (List.toArray [.int .i64 j, .int .i64 d])
def lifeV (L : Life) : Value := .agg (List.toArray [.int .i64 L.b, .int .i64 L.e, .int .i64 L.u])
def entL (e : LifeE) : Value := .tuple #[okey e.j e.d, lifeV e.l]
def LifeE.is (e : LifeE) (j d : Int) : Bool := decide (j = e.j) && decide (d = e.d)
theorem LifeE.is_iff {e : LifeE} {j d : Int} : e.is j d = true ↔ j = e.j ∧ d = e.d := by simp [LifeE.is]
theorem same_okey (j d : Int) (e : LifeE) : sameKey (okey j d) (okey e.j e.d) = some (e.is j d) := by
 unfold okey sameKey LifeE.is
 simp only [sameInts, if_true]
 congr 1
 rw [Bool.eq_iff_iff]
 simp
def lGet : List LifeE → Int → Int → Option Life
 | [], _, _ => none
 | e :: F, j, d => if e.is j d = true then some e.l else lGet F j d
def lPut : List LifeE → Int → Int → Life → List LifeE
 | [], j, d, l => [⟨j, d, l⟩]
 | e :: F, j, d, l => if e.is j d = true then ⟨j, d, l⟩ :: F else e :: lPut F j d l
theorem lGet_put : ∀ (F : List LifeE) (j d : Int) (l : Life) (j' d' : Int), lGet (lPut F j d l) j' d' = if j' = j ∧ d' = d then some l else lGet F j' d' := by
 intro F
 induction F with
 | nil =>
  intro j d l j' d'
  simp only [lPut, lGet, LifeE.is_iff]
 | cons e F ih =>
  intro j d l j' d'
  simp only [lPut]
  by_cases h : e.is j d = true
  ·rw [if_pos h]
   simp only [lGet, LifeE.is_iff]
   rw [LifeE.is_iff] at h
   obtain ⟨h1, h2⟩ := h
   by_cases g : j' = j ∧ d' = d
   ·rw [if_pos g, if_pos g]
   ·rw [if_neg g, if_neg g, if_neg (fun q => g ⟨by omega, by omega⟩)]
  ·rw [if_neg h]
   simp only [lGet, ih, LifeE.is_iff]
   rw [LifeE.is_iff] at h
   by_cases g : j' = e.j ∧ d' = e.d
   ·rw [if_pos g, if_neg (fun q => h ⟨by omega, by omega⟩), if_pos g]
   ·rw [if_neg g, if_neg g]
def zeroL : Life := ⟨0, 0, 0⟩
theorem mfL : ∀ (F : List LifeE) (j d : Int), ∃ f, mFind (okey j d) (F.map entL) 0 = some f ∧ (∃ r, mHas true f [.int .i64 0, .int .i64 0, .int .i64 0] r ∧ r = [.int .i64 ((lGet F j d).getD zeroL).b, .int .i64 ((lGet F j d).getD zeroL).e, .int .i64 ((lGet F j d).getD zeroL).u]) ∧
  ∀ l, mSet f (F.map entL) (okey j d) (lifeV l) = (lPut F j d l).map entL := by
 have key : ∀ (F : List LifeE) (j d : Int) (i : Nat), ∃ f, mFind (okey j d) (F.map entL) i = some f ∧ (match lGet F j d with | some l => ∃ n, f = some (i + n, lifeV l) | none => f = none) ∧
   ∀ l, (match f with | some (n, _) => (F.map entL).set (n - i) (.tuple #[okey j d, lifeV l]) | none => F.map entL ++ [.tuple #[okey j d, lifeV l]]) = (lPut F j d l).map entL := by
  intro F
  induction F with
  | nil => intro j d i; exact ⟨none, rfl, rfl, fun t => rfl⟩
  | cons e F ih =>
   intro j d i
   have hs := same_okey j d e
   by_cases h : e.is j d = true
   ·refine ⟨some (i, lifeV e.l), ?_, ?_, fun t => ?_⟩
    ·simp only [List.map_cons, entL, mFind, hs, h]
    ·simp only [lGet, h, if_true]; exact ⟨0, rfl⟩
    ·simp only [lPut, h, if_true, Nat.sub_self]; rfl
   ·have h' : e.is j d = false := by simpa using h
    obtain ⟨f, h1, h2, h3⟩ := ih j d (Nat.succ i)
    refine ⟨f, ?_, ?_, fun t => ?_⟩
    ·simp only [List.map_cons, entL, mFind, hs, h']; exact h1
    ·simp only [lGet, h', Bool.false_eq_true, if_false]
     split at h2
     ·rename_i t ht
      obtain ⟨n, rfl⟩ := h2
      exact ⟨n + 1, by congr 2; omega⟩
     ·exact h2
    ·have g := h3 t
     simp only [lPut, h', Bool.false_eq_true, if_false, List.map_cons]
     rw [← g]
     cases f with
     | none => rfl
     | some f =>
      obtain ⟨n, v⟩ := f
      have hn : Nat.succ i ≤ n := by
       split at h2
       ·obtain ⟨n', hn'⟩ := h2
        simp only [Option.some.injEq, Prod.mk.injEq] at hn'
        omega
       ·cases h2
      simp only
      rw [show n - i = (n - Nat.succ i) + 1 by omega]
      rfl
 intro F j d
 obtain ⟨f, h1, h2, h3⟩ := key F j d 0
 refine ⟨f, h1, ?_, fun t => ?_⟩
 ·split at h2
  ·rename_i l hl
   obtain ⟨n, rfl⟩ := h2
   refine ⟨[.int .i64 l.b, .int .i64 l.e, .int .i64 l.u], ⟨rfl, fun x hx => ?_, rfl⟩, by rw [hl]; rfl⟩
   simp only [List.mem_cons, List.not_mem_nil, or_false] at hx
   rcases hx with rfl | rfl | rfl <;> rfl
  ·rename_i hl
   subst h2
   refine ⟨[.int .i64 0, .int .i64 0, .int .i64 0], ⟨rfl, fun x hx => ?_, rfl⟩, by rw [hl]; rfl⟩
   simp only [List.mem_cons, List.not_mem_nil, or_false] at hx
   rcases hx with rfl | rfl | rfl <;> rfl
 ·rw [← h3 t]
  cases f with
  | none => rfl
  | some f => obtain ⟨n, v⟩ := f; rfl
def usesL (x : Ev) : Prop := x.kind ≤ 5 ∧ x.kind ≠ 4
instance (x : Ev) : Decidable (usesL x) := by unfold usesL; infer_instance
def lifeS (x : Ev) (L : Life) : Life :=
 if x.kind = 1 then ⟨L.b + 1, L.e, L.u + 1⟩ else if x.kind = 5 then ⟨L.b + 1, L.e + 1, L.u⟩ else if x.kind = 2 then ⟨L.b, L.e + 1, L.u - 1⟩ else if x.kind = 3 then ⟨L.b, L.e, L.u - 1⟩ else L
def lifeF (p : List Ev) : List LifeE := p.foldl (fun F x => if usesL x then lPut F x.job x.due (lifeS x ((lGet F x.job x.due).getD zeroL)) else F) []
def lifeOf (p : List Ev) (j d : Int) : Life := (lGet (lifeF p) j d).getD zeroL
theorem lifeF_snoc (p : List Ev) (x : Ev) : lifeF (p ++ [x]) = if usesL x then lPut (lifeF p) x.job x.due (lifeS x (lifeOf p x.job x.due)) else lifeF p := by unfold lifeF; rw [List.foldl_append]; rfl
theorem lifeOf_snoc (p : List Ev) (x : Ev) (j d : Int) : lifeOf (p ++ [x]) j d = if usesL x ∧ j = x.job ∧ d = x.due then lifeS x (lifeOf p x.job x.due) else lifeOf p j d := by
 unfold lifeOf
 rw [lifeF_snoc]
 by_cases h : usesL x
 ·rw [if_pos h, lGet_put]
  by_cases g : j = x.job ∧ d = x.due
  ·rw [if_pos g, if_pos ⟨h, g⟩]; rfl
  ·rw [if_neg g, if_neg (fun q => g q.2)]
 ·rw [if_neg h, if_neg (fun q => h q.1)]
theorem life_rng : ∀ (n : Nat) (p : List Ev), p.length = n → ∀ j d, (0 ≤ (lifeOf p j d).b ∧ (lifeOf p j d).b ≤ p.length) ∧ (0 ≤ (lifeOf p j d).e ∧ (lifeOf p j d).e ≤ p.length) ∧ (-(p.length : Int) ≤ (lifeOf p j d).u ∧ (lifeOf p j d).u ≤ p.length) := by
 intro n
 induction n with
 | zero =>
  intro p hp j d
  have : p = [] := List.length_eq_zero_iff.1 hp
  subst this
  simp [lifeOf, lifeF, lGet, zeroL]
 | succ n ih =>
  intro p hp j d
  have hne : p ≠ [] := fun h => by rw [h] at hp; cases hp
  have hd := List.dropLast_concat_getLast hne
  generalize p.getLast hne = x at hd
  generalize hq : p.dropLast = q at hd
  have hql : q.length = n := by rw [← hq, List.length_dropLast, hp]; rfl
  rw [← hd, lifeOf_snoc, List.length_append, List.length_singleton]
  have h1 := ih q hql j d
  have h2 := ih q hql x.job x.due
  split
  ·unfold lifeS
   repeat' split
   all_goals first | omega | (simp only; omega)
  ·omega
def twiF (p : List Ev) (x : Ev) : Bool := (decide (x.kind = 1) || decide (x.kind = 5)) &&
 (decide (0 < (lifeOf p x.job x.due).e) || (decide (0 < (lifeOf p x.job x.due).u) || (decide (0 < (lifeOf p x.job x.due).b) && (decide (x.kind = 1) && decide (x.attempt = 1)))))
theorem ev_dueO {x : Ev} (h : evP x = 0) (hk : x.kind = 1 ∨ x.kind = 5) : 0 ≤ x.due ∧ x.due ≤ 253402300799 := by
 have ht : timeB x.due = true := by
  cases hj : timeB x.due with
  | true => rfl
  | false =>
   exfalso
   unfold evP at h
   have hu : (usesK x.kind).2.1 = true := by
    unfold usesK
    rcases hk with h | h
    ·rw [h]; rfl
    ·rw [h]; rfl
   by_cases h1 : x.kind < 1 ∨ 9 ≤ x.kind
   ·rw [if_pos h1] at h; cases h
   ·rw [if_neg h1] at h
    dsimp only at h
    rw [if_pos (.inr ⟨hu, by rw [hj]; simp⟩)] at h
    cases h
 simp only [timeB, Bool.and_eq_true, decide_eq_true_eq] at ht
 exact ht
end Go.Proofs.YtjabmipkllkfbaaGreatDoor.Vc
namespace Go.Proofs.YtjabmipkllkfbaaGreatDoor.Vc
open As
theorem evIs_iff {s p c d : Int} (hp : 1 ≤ p) (hn : 0 ≤ evN s p c) : evIsP s p c d = true ↔ ∃ k, 0 ≤ k ∧ k < evN s p c ∧ s + k * p = d := by
 obtain ⟨b0, b1⟩ := evB_low (t := d) (c := c) (s := s) hp hn
 unfold evIsP
 rw [decide_eq_true_eq]
 refine ⟨fun h => ⟨_, b0, h.1, h.2⟩, fun ⟨k, h0, h1, h2⟩ => ?_⟩
 have e1 := evB_spec (s := s) (c := c) (t := d) hp k h0
 have e2 : evB s p c d = k := by
  rcases Int.lt_trichotomy (evB s p c d) k with h | h | h
  ·exfalso
   have e3 := (evB_spec (s := s) (c := c) (t := d) hp (evB s p c d) b0)
   have h3 : (evB s p c d) * p + p ≤ k * p := by
    have := Int.mul_le_mul_of_nonneg_right (show evB s p c d + 1 ≤ k by omega) (show 0 ≤ p by omega)
    rw [Int.add_mul, Int.one_mul] at this
    exact this
   omega
  ·exact h
  ·omega
 rw [e2]
 exact ⟨h1, h2⟩
theorem nx_some {s p c t : Int} (hp : 1 ≤ p) (hn : 0 ≤ evN s p c) (h : evB s p c (t + 1) < evN s p c) : t < s + evB s p c (t + 1) * p ∧ evIsP s p c (s + evB s p c (t + 1) * p) = true ∧ ∀ d, t < d → d < s + evB s p c (t + 1) * p → evIsP s p c d = false := by
 obtain ⟨b0, b1⟩ := evB_low (t := t + 1) (c := c) (s := s) hp hn
 have e := evB_spec (s := s) (c := c) (t := t + 1) hp (evB s p c (t + 1)) b0
 refine ⟨by omega, (evIs_iff hp hn).2 ⟨_, b0, h, rfl⟩, fun d h1 h2 => ?_⟩
 cases hd : evIsP s p c d with
 | false => rfl
 | true =>
  exfalso
  obtain ⟨k, k0, k1, k2⟩ := (evIs_iff hp hn).1 hd
  have e1 := evB_spec (s := s) (c := c) (t := t + 1) hp k k0
  have h3 : (evB s p c (t + 1)) * p ≤ k * p := Int.mul_le_mul_of_nonneg_right (by omega) (by omega)
  omega
theorem nx_none {s p c t : Int} (hp : 1 ≤ p) (hn : 0 ≤ evN s p c) (h : ¬ evB s p c (t + 1) < evN s p c) : ∀ d, t < d → evIsP s p c d = false := fun d h1 => by
 cases hd : evIsP s p c d with
 | false => rfl
 | true =>
  exfalso
  obtain ⟨k, k0, k1, k2⟩ := (evIs_iff hp hn).1 hd
  have e1 := evB_spec (s := s) (c := c) (t := t + 1) hp k k0
  omega
def oneF : List BE := [.eq (.var 7) (.lit 1), .le (.lit 0) (.var 9), .le (.var 9) (.lit 253402300799), .le (.lit 0) (.var 10), .le (.var 10) (.lit 253402300799), .le (.var 9) (.var 10), .le (.sub (.var 10) (.var 9)) (.lit 1000000), .le (.add (.var 9) (.lit 1)) (.var 10)]
structure EvJob (J : JobR) : Prop where
 k : J.k = 2
 a : J.a = 0
 b : J.b = 0
 c : J.c = 0
 d : J.d = 0
 e : J.e = 0
 f : J.f = 0
 x : J.x = false
 y : J.y = false
 z : J.z = 0
 skip : J.skip = []
 s : 0 ≤ J.s ∧ J.s ≤ 253402300799
 t : 1 ≤ J.t ∧ J.t ≤ 68719476736
 u : 0 ≤ J.u ∧ J.u ≤ 1000000
 splay : J.pol.splay = 0
 dead : 0 ≤ J.pol.dead ∧ J.pol.dead ≤ 1000000
theorem EvJob.num {J : JobR} (h : EvJob J) : 1 ≤ evN J.s J.t J.u := (ev_num (t := 0) (⟨h.s.1, h.s.2, h.t.1, h.t.2, h.u.1, h.u.2, by omega, by omega⟩ : evV J.s J.t J.u 0)).2.2.1
def wrF (J : JobR) (a z : Int) (p : List Ev) (x : Ev) : Bool := (decide (x.kind = 1) || decide (x.kind = 5)) && (!evIsP J.s J.t J.u x.due || (decide (x.due ≤ a) || decide (z < x.due)))
def missP (J : JobR) (z : Int) (l : List Ev) (d : Int) : Prop := evIsP J.s J.t J.u d = true ∧ d + J.pol.dead < z ∧ (lifeOf l 0 d).b = 0
def anyM (J : JobR) (a z : Int) (l : List Ev) : Prop := ∃ d, a < d ∧ d ≤ z ∧ missP J z l d
def dueR (J : JobR) (a z : Int) (l : List Ev) (M : Bool) : List Value := (flRow 5 (idxs (marks (wrF J a z) l l.length) 0) ++ flRow 6 (idxs (marks twiF l l.length) 0)) ++ (if M = true then [.int .i64 7, .int .i64 0] else [])
def dueN (J : JobR) (a z : Int) (l : List Ev) (M : Bool) : Nat := ((idxs (marks (wrF J a z) l l.length) 0).length + (idxs (marks twiF l l.length) 0).length) + (if M = true then 1 else 0)
def aDue_pre (a b c d s t u : Int) (p : Option Addr) (n cc : Nat) (y z : Int) (p1 : Option Addr) (n1 c1 : Nat) (m : Mem) : Prop := ((Globs m glSp ∧ Globs m glMx) ∧ n = 1 ∧ (0 ≤ y ∧ y + 1 ≤ z ∧ z ≤ 253402300799 ∧ z - y ≤ 1000000) ∧ n1 ≤ 1000) ∧
 ∃ J l, JobsAt m p 1 [J] ∧ EvsAt m p1 n1 l ∧ EvJob J ∧ cfgE a b c d t u [J] = 0 ∧ ∃ i : Int, (i, (0 : Int)) = trcE 1 l
def aDue_post (a b c d s t u : Int) (p : Option Addr) (n cc : Nat) (y z : Int) (p1 : Option Addr) (n1 c1 : Nat) (m : Mem) (q : Option Addr) (n2 c2 : Nat) (e : Int) : Prop :=
 ∀ J l, JobsAt m p 1 [J] → EvsAt m p1 n1 l → e = 0 ∧ ∃ M : Bool, (M = true ↔ anyM J y z l) ∧ RowM m q (dueR J y z l M) ∧ n2 = dueN J y z l M
def endN (n2 n4 : Nat) (r0 r2 : List Value) (p2 : Option Addr) (m8 : Mem) (Q : Mem → Option Addr → Nat → Nat → Prop) : Prop :=
 (((0 + (n2 : Int)) + (n4 : Int)) ≤ 9223372036854775807 ∧ ((((0 + (n2 : Int)) + (n4 : Int)) + 0) ≤ 9223372036854775807 ∧ (((((0 + (n2 : Int)) + (n4 : Int)) + 0) - 0) ≤ 9223372036854775807 ∧ ((0 < ((((0 + (n2 : Int)) + (n4 : Int)) + 0) - 0) →
 (((0 : Int) ≤ 0 ∧ (0 : Int) ≤ 1000000) ∧ ∀ r4 : List Value, r4 = repl (0 : Int).toNat [(Value.int IntKind.i64 0), (Value.int IntKind.i64 0)] → ((0 ≤ ((((0 + (n2 : Int)) + (n4 : Int)) + 0) - 0) ∧ ((((0 + (n2 : Int)) + (n4 : Int)) + 0) - 0) ≤ 1000000) ∧ ∀ r5 : List Value, r5 = repl (((((0 + (n2 : Int)) + (n4 : Int)) + 0) - 0)).toNat [(Value.int IntKind.i64 0), (Value.int IntKind.i64 0)] → ((2 * ((((0 + (n2 : Int)) + (n4 : Int)) + 0) - 0) * 16 ≤ 281474976710656) ∧ ∀ (p6 : Option Addr) (c6 : Nat) (r6 : List Value), r6 = r4 ++ r5 → ((((0 + (n2 : Int)) + (n4 : Int)) + 0) - 0) ≤ (c6 : Int) → c6 ≤ 9223372036854775807 → (p6 = none → ((((0 + (n2 : Int)) + (n4 : Int)) + 0) - 0) = 0) → (∃ n43_ : Nat, (n43_ : Int) = 0 ∧ n43_ ≤ 9223372036854775807 ∧ ((0 ≤ (n43_ : Int) ∧ (n43_ : Int) * 2 ≤ ((r6.length : Nat) : Int)) ∧ ∀ r7 : List Value, r7 = r6.take (((n43_ : Int)).toNat * 2) → ((2 * ((n43_ : Int) + (n2 : Int)) * 16 ≤ 281474976710656) ∧ ∀ (p7 : Option Addr) (c7 : Nat) (r8 : List Value), r8 = r7 ++ r0 → ((n43_ : Int) + (n2 : Int)) ≤ (c7 : Int) → c7 ≤ 9223372036854775807 → (p7 = none → ((n43_ : Int) + (n2 : Int)) = 0) → ((0 ≤ ((n43_ : Int) + (n2 : Int)) ∧ ((n43_ : Int) + (n2 : Int)) * 2 ≤ ((r8.length : Nat) : Int)) ∧ ∀ r9 : List Value, r9 = r8.take ((((n43_ : Int) + (n2 : Int))).toNat * 2) → ((2 * (((n43_ : Int) + (n2 : Int)) + (n4 : Int)) * 16 ≤ 281474976710656) ∧ ∀ (p8 : Option Addr) (c8 : Nat) (r10 : List Value), r10 = r9 ++ r2 → (((n43_ : Int) + (n2 : Int)) + (n4 : Int)) ≤ (c8 : Int) → c8 ≤ 9223372036854775807 → (p8 = none → (((n43_ : Int) + (n2 : Int)) + (n4 : Int)) = 0) → (∀ m9 : Mem, MemSub m8 m9 → RowAt m9 p8 r10 → (((Int.toNat (((n43_ : Int) + (n2 : Int)) + (n4 : Int))) ≤ 9223372036854775807 ∧ c8 ≤ 9223372036854775807) ∧ (K.i64 0) ∧ Q m9 (p8.map fun p => p.add 0) (Int.toNat (((n43_ : Int) + (n2 : Int)) + (n4 : Int))) c8))))))))))) ∧
 (((((0 + (n2 : Int)) + (n4 : Int)) + 0) - 0) ≤ 0 →
 (∃ r4 : List Value, ((r4.length : Nat) : Int) = 0 * 2 ∧ (∀ (j : Nat) (v : Value), r4[j]? = some v → cellI m8 p2 (0 + (j : Int)) = some v) ∧ ((2 * (n2 : Int) * 16 ≤ 281474976710656) ∧ ∀ (p6 : Option Addr) (c6 : Nat) (r5 : List Value), r5 = r4 ++ r0 → (n2 : Int) ≤ (c6 : Int) → c6 ≤ 9223372036854775807 → (p6 = none → (n2 : Int) = 0) → ((0 ≤ (n2 : Int) ∧ (n2 : Int) * 2 ≤ ((r5.length : Nat) : Int)) ∧ ∀ r6 : List Value, r6 = r5.take (((n2 : Int)).toNat * 2) → ((2 * ((n2 : Int) + (n4 : Int)) * 16 ≤ 281474976710656) ∧ ∀ (p7 : Option Addr) (c7 : Nat) (r7 : List Value), r7 = r6 ++ r2 → ((n2 : Int) + (n4 : Int)) ≤ (c7 : Int) → c7 ≤ 9223372036854775807 → (p7 = none → ((n2 : Int) + (n4 : Int)) = 0) → (∀ m9 : Mem, MemSub m8 m9 → RowAt m9 p7 r7 → (((Int.toNat ((n2 : Int) + (n4 : Int))) ≤ 9223372036854775807 ∧ c7 ≤ 9223372036854775807) ∧ (K.i64 0) ∧ Q m9 (p7.map fun p => p.add 0) (Int.toNat ((n2 : Int) + (n4 : Int))) c7)))))))))))
def endM (n2 n4 : Nat) (r0 r2 : List Value) (m8 : Mem) (Q : Mem → Option Addr → Nat → Nat → Prop) : Prop :=
 (((0 + (n2 : Int)) + (n4 : Int)) ≤ 9223372036854775807 ∧ ((((0 + (n2 : Int)) + (n4 : Int)) + 1) ≤ 9223372036854775807 ∧ (((((0 + (n2 : Int)) + (n4 : Int)) + 1) - 0) ≤ 9223372036854775807 ∧ (((0 : Int) ≤ 0 ∧ (0 : Int) ≤ 1000000) ∧ ∀ r5 : List Value, r5 = repl (0 : Int).toNat [(Value.int IntKind.i64 0), (Value.int IntKind.i64 0)] → ((0 ≤ ((((0 + (n2 : Int)) + (n4 : Int)) + 1) - 0) ∧ ((((0 + (n2 : Int)) + (n4 : Int)) + 1) - 0) ≤ 1000000) ∧ ∀ r6 : List Value, r6 = repl (((((0 + (n2 : Int)) + (n4 : Int)) + 1) - 0)).toNat [(Value.int IntKind.i64 0), (Value.int IntKind.i64 0)] → ((2 * ((((0 + (n2 : Int)) + (n4 : Int)) + 1) - 0) * 16 ≤ 281474976710656) ∧ ∀ (p6 : Option Addr) (c6 : Nat) (r7 : List Value), r7 = r5 ++ r6 → ((((0 + (n2 : Int)) + (n4 : Int)) + 1) - 0) ≤ (c6 : Int) → c6 ≤ 9223372036854775807 → (p6 = none → ((((0 + (n2 : Int)) + (n4 : Int)) + 1) - 0) = 0) → (∃ n47_ : Nat, (n47_ : Int) = 0 ∧ n47_ ≤ 9223372036854775807 ∧ ((0 ≤ (n47_ : Int) ∧ (n47_ : Int) * 2 ≤ ((r7.length : Nat) : Int)) ∧ ∀ r8 : List Value, r8 = r7.take (((n47_ : Int)).toNat * 2) → ((2 * ((n47_ : Int) + (n2 : Int)) * 16 ≤ 281474976710656) ∧ ∀ (p7 : Option Addr) (c7 : Nat) (r9 : List Value), r9 = r8 ++ r0 → ((n47_ : Int) + (n2 : Int)) ≤ (c7 : Int) → c7 ≤ 9223372036854775807 → (p7 = none → ((n47_ : Int) + (n2 : Int)) = 0) → ((0 ≤ ((n47_ : Int) + (n2 : Int)) ∧ ((n47_ : Int) + (n2 : Int)) * 2 ≤ ((r9.length : Nat) : Int)) ∧ ∀ r10 : List Value, r10 = r9.take ((((n47_ : Int) + (n2 : Int))).toNat * 2) → ((2 * (((n47_ : Int) + (n2 : Int)) + (n4 : Int)) * 16 ≤ 281474976710656) ∧ ∀ (p8 : Option Addr) (c8 : Nat) (r11 : List Value), r11 = r10 ++ r2 → (((n47_ : Int) + (n2 : Int)) + (n4 : Int)) ≤ (c8 : Int) → c8 ≤ 9223372036854775807 → (p8 = none → (((n47_ : Int) + (n2 : Int)) + (n4 : Int)) = 0) → ((2 * ((((n47_ : Int) + (n2 : Int)) + (n4 : Int)) + 1) * 16 ≤ 281474976710656) ∧ ∀ (p9 : Addr) (c9 : Nat) (r12 : List Value), r12 = r11 ++ [(Value.int IntKind.i64 7), (Value.int IntKind.i64 0)] → (((n47_ : Int) + (n2 : Int)) + (n4 : Int)) + 1 ≤ (c9 : Int) → c9 ≤ 9223372036854775807 → (∀ m9 : Mem, MemSub m8 m9 → RowAt m9 (some p9) r12 → (((Int.toNat ((((n47_ : Int) + (n2 : Int)) + (n4 : Int)) + 1)) ≤ 9223372036854775807 ∧ c9 ≤ 9223372036854775807) ∧ (K.i64 0) ∧ Q m9 ((some p9).map fun p => p.add 0) (Int.toNat ((((n47_ : Int) + (n2 : Int)) + (n4 : Int)) + 1)) c9))))))))))))))
def outP (F4 : Option Addr → Nat → Nat → Int → List Value → Prop × Nat) (p0 p1 : Option Addr) (x9 x10 : Int) (m3 : Mem) (p2 : Option Addr) (n2 c2 : Nat) (x19 : Int) (r0 : List Value) : Prop :=
 (∃ x21 : Int, cellI m3 p1 ((0 + (x19 * 8)) + 2) = some (Value.int IntKind.i64 x21) ∧ (K.i64 x21) ∧ (0 ≤ x21 ∧ (x21 < 1 ∧ (p0 ≠ none ∧ (HasI m3 p0 ((0 + (x21 * 30)) + 1) 14 ∧ (∃ x22 : Int, cellI m3 p1 ((0 + (x19 * 8)) + 3) = some (Value.int IntKind.i64 x22) ∧ (K.i64 x22) ∧ (∃ x23 : Int, cellI m3 p0 ((0 + (x21 * 30)) + 1) = some (Value.int IntKind.i64 x23) ∧ (K.i64 x23) ∧ (∃ x24 : Int, cellI m3 p0 (((0 + (x21 * 30)) + 1) + 1) = some (Value.int IntKind.u64 x24) ∧ (K.u64 x24) ∧ (∃ x25 : Int, cellI m3 p0 (((0 + (x21 * 30)) + 1) + 2) = some (Value.int IntKind.u64 x25) ∧ (K.u64 x25) ∧ (∃ x26 : Int, cellI m3 p0 (((0 + (x21 * 30)) + 1) + 3) = some (Value.int IntKind.u64 x26) ∧ (K.u64 x26) ∧ (∃ x27 : Int, cellI m3 p0 (((0 + (x21 * 30)) + 1) + 4) = some (Value.int IntKind.u64 x27) ∧ (K.u64 x27) ∧ (∃ x28 : Int, cellI m3 p0 (((0 + (x21 * 30)) + 1) + 5) = some (Value.int IntKind.u64 x28) ∧ (K.u64 x28) ∧ (∃ x29 : Int, cellI m3 p0 (((0 + (x21 * 30)) + 1) + 6) = some (Value.int IntKind.u64 x29) ∧ (K.u64 x29) ∧ (∃ b0 : Bool, cellI m3 p0 (((0 + (x21 * 30)) + 1) + 7) = some (Value.bool b0) ∧ (∃ b1 : Bool, cellI m3 p0 (((0 + (x21 * 30)) + 1) + 8) = some (Value.bool b1) ∧ (∃ x30 : Int, cellI m3 p0 (((0 + (x21 * 30)) + 1) + 9) = some (Value.int IntKind.i64 x30) ∧ (K.i64 x30) ∧ (∃ x31 : Int, cellI m3 p0 (((0 + (x21 * 30)) + 1) + 10) = some (Value.int IntKind.i64 x31) ∧ (K.i64 x31) ∧ (∃ x32 : Int, cellI m3 p0 (((0 + (x21 * 30)) + 1) + 11) = some (Value.int IntKind.i64 x32) ∧ (K.i64 x32) ∧ (∃ x33 : Int, cellI m3 p0 (((0 + (x21 * 30)) + 1) + 12) = some (Value.int IntKind.i64 x33) ∧ (K.i64 x33) ∧ (∃ (p3 : Option Addr) (n3 c3 : Nat), cellI m3 p0 (((0 + (x21 * 30)) + 1) + 13) = some (Value.slice p3 n3 c3) ∧ (n3 ≤ c3 ∧ c3 ≤ 9223372036854775807) ∧ ((n3 ≤ 9223372036854775807 ∧ c3 ≤ 9223372036854775807) ∧ plIs_pre x23 x24 x25 x26 x27 x28 x29 b0 b1 x30 x31 x32 x33 (p3.map fun p => p.add 0) n3 c3 x22 m3 ∧ ∀ m5 : Mem, MemSub m3 m5 → ∀ b2 : Bool, ∀ x36 : Int, IntKind.i64.min ≤ x36 → x36 ≤ IntKind.i64.max → plIs_post x23 x24 x25 x26 x27 x28 x29 b0 b1 x30 x31 x32 x33 (p3.map fun p => p.add 0) n3 c3 x22 m5 b2 x36 →
 ((x36 ≠ 0 →
 ((2 * ((n2 : Int) + 1) * 16 ≤ 281474976710656) ∧ ∀ (p4 : Addr) (c4 : Nat) (r1 : List Value), r1 = r0 ++ [(Value.int IntKind.i64 5), (Value.int IntKind.i64 x19)] → (n2 : Int) + 1 ≤ (c4 : Int) → c4 ≤ 9223372036854775807 → ((x19 + 1) ≤ 9223372036854775807 ∧ (((Int.toNat ((n2 : Int) + 1)) ≤ 9223372036854775807 ∧ c4 ≤ 9223372036854775807) ∧ (IntKind.i64.min ≤ (x19 + 1) ∧ (x19 + 1) ≤ IntKind.i64.max) ∧ ((F4 ((some p4).map fun p => p.add 0) (Int.toNat ((n2 : Int) + 1)) c4 (x19 + 1) r1).1 ∧ (F4 ((some p4).map fun p => p.add 0) (Int.toNat ((n2 : Int) + 1)) c4 (x19 + 1) r1).2 < (F4 p2 n2 c2 x19 r0).2))))) ∧
 (x36 = 0 →
 ((b2 = false →
 ((2 * ((n2 : Int) + 1) * 16 ≤ 281474976710656) ∧ ∀ (p4 : Addr) (c4 : Nat) (r1 : List Value), r1 = r0 ++ [(Value.int IntKind.i64 5), (Value.int IntKind.i64 x19)] → (n2 : Int) + 1 ≤ (c4 : Int) → c4 ≤ 9223372036854775807 → ((x19 + 1) ≤ 9223372036854775807 ∧ (((Int.toNat ((n2 : Int) + 1)) ≤ 9223372036854775807 ∧ c4 ≤ 9223372036854775807) ∧ (IntKind.i64.min ≤ (x19 + 1) ∧ (x19 + 1) ≤ IntKind.i64.max) ∧ ((F4 ((some p4).map fun p => p.add 0) (Int.toNat ((n2 : Int) + 1)) c4 (x19 + 1) r1).1 ∧ (F4 ((some p4).map fun p => p.add 0) (Int.toNat ((n2 : Int) + 1)) c4 (x19 + 1) r1).2 < (F4 p2 n2 c2 x19 r0).2))))) ∧
 (b2 = true →
 ((x22 ≤ x9 →
 ((2 * ((n2 : Int) + 1) * 16 ≤ 281474976710656) ∧ ∀ (p4 : Addr) (c4 : Nat) (r1 : List Value), r1 = r0 ++ [(Value.int IntKind.i64 5), (Value.int IntKind.i64 x19)] → (n2 : Int) + 1 ≤ (c4 : Int) → c4 ≤ 9223372036854775807 → ((x19 + 1) ≤ 9223372036854775807 ∧ (((Int.toNat ((n2 : Int) + 1)) ≤ 9223372036854775807 ∧ c4 ≤ 9223372036854775807) ∧ (IntKind.i64.min ≤ (x19 + 1) ∧ (x19 + 1) ≤ IntKind.i64.max) ∧ ((F4 ((some p4).map fun p => p.add 0) (Int.toNat ((n2 : Int) + 1)) c4 (x19 + 1) r1).1 ∧ (F4 ((some p4).map fun p => p.add 0) (Int.toNat ((n2 : Int) + 1)) c4 (x19 + 1) r1).2 < (F4 p2 n2 c2 x19 r0).2))))) ∧
 (x9 < x22 →
 ((x21 = 0 →
 ((x10 < x22 →
 ((2 * ((n2 : Int) + 1) * 16 ≤ 281474976710656) ∧ ∀ (p4 : Addr) (c4 : Nat) (r1 : List Value), r1 = r0 ++ [(Value.int IntKind.i64 5), (Value.int IntKind.i64 x19)] → (n2 : Int) + 1 ≤ (c4 : Int) → c4 ≤ 9223372036854775807 → ((x19 + 1) ≤ 9223372036854775807 ∧ (((Int.toNat ((n2 : Int) + 1)) ≤ 9223372036854775807 ∧ c4 ≤ 9223372036854775807) ∧ (IntKind.i64.min ≤ (x19 + 1) ∧ (x19 + 1) ≤ IntKind.i64.max) ∧ ((F4 ((some p4).map fun p => p.add 0) (Int.toNat ((n2 : Int) + 1)) c4 (x19 + 1) r1).1 ∧ (F4 ((some p4).map fun p => p.add 0) (Int.toNat ((n2 : Int) + 1)) c4 (x19 + 1) r1).2 < (F4 p2 n2 c2 x19 r0).2))))) ∧
 (x22 ≤ x10 →
 ((x19 + 1) ≤ 9223372036854775807 ∧ ((n2 ≤ 9223372036854775807 ∧ c2 ≤ 9223372036854775807) ∧ (IntKind.i64.min ≤ (x19 + 1) ∧ (x19 + 1) ≤ IntKind.i64.max) ∧ ((F4 (p2.map fun p => p.add 0) n2 c2 (x19 + 1) r0).1 ∧ (F4 (p2.map fun p => p.add 0) n2 c2 (x19 + 1) r0).2 < (F4 p2 n2 c2 x19 r0).2)))))) ∧
 (x21 ≠ 0 →
 False /- err 120 -/)))))))))))))))))))))))))))))
def lookP (F7 : Int → Prop × Nat) (p0 : Option Addr) (x9 x10 x24 x26 x40 : Int) (m8 : Mem) (r3 : List Value) (N : Prop) : Prop :=
 (∀ x43 : Int, x43 = (bif true then max (x40 + x24) (x9 + 1) else min (x40 + x24) (x9 + 1)) → (K.i64 x43) ∧ (∃ x44 : Int, cellI m8 p0 18 = some (Value.int IntKind.i64 x44) ∧ (K.i64 x44) ∧ ((-9223372036854775808 : Int) ≤ (x43 + x44) ∧ ((x43 + x44) ≤ 9223372036854775807 ∧ (((x43 + x44) < x10 →
 (∃ f : Option (Nat × Value), mFind (Value.agg (List.toArray [(Value.int IntKind.i64 0), (Value.int IntKind.i64 x40)])) r3 0 = some f ∧ ∀ b3 : Bool, b3 = mIs f → ∃ r4 : List Value, mHas true f [(Value.int IntKind.i64 0), (Value.int IntKind.i64 0), (Value.int IntKind.i64 0)] r4 ∧ (∃ x45 : Int, rowI r4 0 = some (Value.int IntKind.i64 x45) ∧ (K.i64 x45) ∧ ((x45 = 0 →
 N) ∧
 (x45 ≠ 0 →
 ((K.i64 x40) ∧ ((F7 x40).1 ∧ (F7 x40).2 < (F7 x26).2))))))) ∧
 (x10 ≤ (x43 + x44) →
 ((K.i64 x40) ∧ ((F7 x40).1 ∧ (F7 x40).2 < (F7 x26).2))))))))
def dueP (F7 : Int → Prop × Nat) (p0 : Option Addr) (x9 x10 x24 x26 x40 : Int) (m8 : Mem) (r3 : List Value) (N : Prop) : Prop :=
 (∀ x42 : Int, x42 = (bif true then max x40 (x9 + 1) else min x40 (x9 + 1)) → (K.i64 x42) ∧ ((x42 = x40 →
 ((-9223372036854775808 : Int) ≤ (x40 + x24) ∧ ((x40 + x24) ≤ 9223372036854775807 ∧ ((x10 < (x40 + x24) →
 ((K.i64 x40) ∧ ((F7 x40).1 ∧ (F7 x40).2 < (F7 x26).2))) ∧
 ((x40 + x24) ≤ x10 →
 (((x40 + x24) < x10 →
 (lookP F7 p0 x9 x10 x24 x26 x40 m8 r3 N)) ∧
 (x10 ≤ (x40 + x24) →
 (lookP F7 p0 x9 x10 x24 x26 x40 m8 r3 N)))))))) ∧
 (x42 ≠ x40 →
 (∃ x43 : Int, cellI m8 p0 18 = some (Value.int IntKind.i64 x43) ∧ (K.i64 x43) ∧ ((-9223372036854775808 : Int) ≤ (x42 + x43) ∧ ((x42 + x43) ≤ 9223372036854775807 ∧ (((x42 + x43) < x10 →
 (∃ f : Option (Nat × Value), mFind (Value.agg (List.toArray [(Value.int IntKind.i64 0), (Value.int IntKind.i64 x40)])) r3 0 = some f ∧ ∀ b3 : Bool, b3 = mIs f → ∃ r4 : List Value, mHas true f [(Value.int IntKind.i64 0), (Value.int IntKind.i64 0), (Value.int IntKind.i64 0)] r4 ∧ (∃ x44 : Int, rowI r4 0 = some (Value.int IntKind.i64 x44) ∧ (K.i64 x44) ∧ ((x44 = 0 →
 N) ∧
 (x44 ≠ 0 →
 ((K.i64 x40) ∧ ((F7 x40).1 ∧ (F7 x40).2 < (F7 x26).2))))))) ∧
 (x10 ≤ (x42 + x43) →
 ((K.i64 x40) ∧ ((F7 x40).1 ∧ (F7 x40).2 < (F7 x26).2))))))))))
theorem take_all2 {r : List Value} {n : Nat} (h : r.length = n * 2) {k : Nat} (hk : k = n * 2) : r.take k = r := List.take_of_length_le (by omega)
theorem endN_ok {n2 n4 : Nat} {r0 r2 : List Value} {p2 : Option Addr} {m8 : Mem} {Q : Mem → Option Addr → Nat → Nat → Prop} (h0 : r0.length = n2 * 2) (h2 : r2.length = n4 * 2) (b2 : n2 ≤ 1000) (b4 : n4 ≤ 1000)
  (hQ : ∀ m9 q c, MemSub m8 m9 → RowM m9 q (r0 ++ r2) → Q m9 q (n2 + n4) c) : endN n2 n4 r0 r2 p2 m8 Q := by
 have kz : K.i64 0 := ⟨by decide, by decide⟩
 unfold endN
 refine ⟨by omega, by omega, by omega, fun _ => ⟨⟨by omega, by omega⟩, fun r4 hr4 => ⟨⟨by omega, by omega⟩, fun r5 hr5 => ⟨by omega, fun p6 c6 r6 hr6 _ _ _ => ⟨0, rfl, by omega, ⟨by omega, by omega⟩, fun r7 hr7 => ⟨by omega, fun p7 c7 r8 hr8 _ _ _ => ?_⟩⟩⟩⟩⟩, fun _ => ⟨[], rfl, fun j v h => by simp at h, by omega, fun p6 c6 r5 hr5 _ _ _ => ?_⟩⟩
 ·have e7 : r7 = [] := by rw [hr7]; rfl
  have e8 : r8 = r0 := by rw [hr8, e7]; rfl
  refine ⟨⟨by omega, by rw [e8, h0]; omega⟩, fun r9 hr9 => ⟨by omega, fun p8 c8 r10 hr10 _ hc8 hz m9 hm9 hrow => ⟨⟨by omega, hc8⟩, kz, ?_⟩⟩⟩
  have e9 : r9 = r0 := by rw [hr9, e8]; exact take_all2 h0 (by omega)
  have en : Int.toNat (((((0 : Nat) : Int)) + (n2 : Int)) + (n4 : Int)) = n2 + n4 := by omega
  rw [map_add0, en]
  rw [hr10, e9] at hrow
  refine hQ m9 p8 c8 hm9 ⟨hrow, fun h => ?_⟩
  have := hz h
  apply List.length_eq_zero_iff.1
  rw [List.length_append]
  omega
 ·have e5 : r5 = r0 := by rw [hr5]; rfl
  refine ⟨⟨by omega, by rw [e5, h0]; omega⟩, fun r6 hr6 => ⟨by omega, fun p7 c7 r7 hr7 _ hc7 hz m9 hm9 hrow => ⟨⟨by omega, hc7⟩, kz, ?_⟩⟩⟩
  have e6 : r6 = r0 := by rw [hr6, e5]; exact take_all2 h0 (by omega)
  have en : Int.toNat ((n2 : Int) + (n4 : Int)) = n2 + n4 := by omega
  rw [map_add0, en]
  rw [hr7, e6] at hrow
  refine hQ m9 p7 c7 hm9 ⟨hrow, fun h => ?_⟩
  have := hz h
  apply List.length_eq_zero_iff.1
  rw [List.length_append]
  omega
theorem endM_ok {n2 n4 : Nat} {r0 r2 : List Value} {m8 : Mem} {Q : Mem → Option Addr → Nat → Nat → Prop} (h0 : r0.length = n2 * 2) (h2 : r2.length = n4 * 2) (b2 : n2 ≤ 1000) (b4 : n4 ≤ 1000)
  (hQ : ∀ m9 q c, MemSub m8 m9 → RowM m9 q ((r0 ++ r2) ++ [.int .i64 7, .int .i64 0]) → Q m9 q (n2 + n4 + 1) c) : endM n2 n4 r0 r2 m8 Q := by
 have kz : K.i64 0 := ⟨by decide, by decide⟩
 unfold endM
 refine ⟨by omega, by omega, by omega, ⟨by omega, by omega⟩, fun r5 hr5 => ⟨⟨by omega, by omega⟩, fun r6 hr6 => ⟨by omega, fun p6 c6 r7 hr7 _ _ _ => ⟨0, rfl, by omega, ⟨by omega, by omega⟩, fun r8 hr8 => ⟨by omega, fun p7 c7 r9 hr9 _ _ _ => ?_⟩⟩⟩⟩⟩
 have e8 : r8 = [] := by rw [hr8]; rfl
 have e9 : r9 = r0 := by rw [hr9, e8]; rfl
 refine ⟨⟨by omega, by rw [e9, h0]; omega⟩, fun r10 hr10 => ⟨by omega, fun p8 c8 r11 hr11 _ hc8 hz => ⟨by omega, fun p9 c9 r12 hr12 _ hc9 m9 hm9 hrow => ⟨⟨by omega, hc9⟩, kz, ?_⟩⟩⟩⟩
 have e10 : r10 = r0 := by rw [hr10, e9]; exact take_all2 h0 (by omega)
 have en : Int.toNat (((((0 : Nat) : Int) + (n2 : Int)) + (n4 : Int)) + 1) = n2 + n4 + 1 := by omega
 rw [map_add0, en]
 rw [hr12, hr11, e10] at hrow
 exact hQ m9 (some p9) c9 hm9 ⟨hrow, fun h => by cases h⟩
def dInv (w : List Ev → Ev → Bool) (l : List Ev) (n1 : Nat) (k : Int) (p : Option Addr) (n c : Nat) (y : Int) (r : List Value) : Prop × Nat :=
 ((∃ i : Nat, y = i ∧ i ≤ l.length ∧ r = flRow k (idxs (marks w l i) 0) ∧ n = (idxs (marks w l i) 0).length), ((n1 : Int) - y).toNat)
def eInv (w : List Ev → Ev → Bool) (l : List Ev) (n1 : Nat) (k : Int) (p : Option Addr) (n c : Nat) (y : Int) (r rl : List Value) : Prop × Nat :=
 ((∃ i : Nat, y = i ∧ i ≤ l.length ∧ r = flRow k (idxs (marks w l i) 0) ∧ n = (idxs (marks w l i) 0).length ∧ rl = (lifeF (l.take i)).map entL), ((n1 : Int) - y).toNat)
theorem d_hit {w : List Ev → Ev → Bool} {l : List Ev} {n1 : Nat} {k : Int} {p : Option Addr} {n c i : Nat} {r : List Value} {x : Ev} (hx : l[i]? = some x) (hl : l.length = n1) (hb1 : n1 ≤ 1000) (hb : w (l.take i) x = true) (hr : r = flRow k (idxs (marks w l i) 0)) (hn : n = (idxs (marks w l i) 0).length) :
  ((2 * ((n : Int) + 1) * 16 ≤ 281474976710656) ∧ ∀ (p4 : Addr) (c4 : Nat) (r1 : List Value), r1 = r ++ [(Value.int IntKind.i64 k), (Value.int IntKind.i64 (i : Int))] → (n : Int) + 1 ≤ (c4 : Int) → c4 ≤ 9223372036854775807 →
   (((i : Int) + 1) ≤ 9223372036854775807 ∧ (((Int.toNat ((n : Int) + 1)) ≤ 9223372036854775807 ∧ c4 ≤ 9223372036854775807) ∧ (IntKind.i64.min ≤ ((i : Int) + 1) ∧ ((i : Int) + 1) ≤ IntKind.i64.max) ∧ ((dInv w l n1 k ((some p4).map fun p => p.add 0) (Int.toNat ((n : Int) + 1)) c4 ((i : Int) + 1) r1).1 ∧ (dInv w l n1 k ((some p4).map fun p => p.add 0) (Int.toNat ((n : Int) + 1)) c4 ((i : Int) + 1) r1).2 < (dInv w l n1 k p n c (i : Int) r).2)))) := by
 have hil := (List.getElem?_eq_some_iff.1 hx).1
 have hm := idx_marks_len w l i
 have b2 : IntKind.i64.min = -9223372036854775808 := rfl
 have b3 : IntKind.i64.max = 9223372036854775807 := rfl
 have e := marks_hit (f := w) hx hb
 refine ⟨by omega, fun p4 c4 r1 hr1 g1 g2 => ⟨by omega, ⟨by omega, g2⟩, ⟨(by rw [b2]; omega : IntKind.i64.min ≤ _), (by rw [b3]; omega : _ ≤ IntKind.i64.max)⟩, ⟨i + 1, by omega, by omega, ?_, ?_⟩, by simp only [dInv]; omega⟩⟩
 ·rw [hr1, e, flRow_app, hr]
 ·rw [e, List.length_append, ← hn]; simp
theorem d_mis {w : List Ev → Ev → Bool} {l : List Ev} {n1 : Nat} {k : Int} {p : Option Addr} {n c i : Nat} {r : List Value} {x : Ev} (hx : l[i]? = some x) (hl : l.length = n1) (hb1 : n1 ≤ 1000) (hb : w (l.take i) x = false) (hr : r = flRow k (idxs (marks w l i) 0)) (hn : n = (idxs (marks w l i) 0).length) (hn' : n ≤ 9223372036854775807) (hc : c ≤ 9223372036854775807) :
  (((i : Int) + 1) ≤ 9223372036854775807 ∧ ((n ≤ 9223372036854775807 ∧ c ≤ 9223372036854775807) ∧ (IntKind.i64.min ≤ ((i : Int) + 1) ∧ ((i : Int) + 1) ≤ IntKind.i64.max) ∧ ((dInv w l n1 k (p.map fun p => p.add 0) n c ((i : Int) + 1) r).1 ∧ (dInv w l n1 k (p.map fun p => p.add 0) n c ((i : Int) + 1) r).2 < (dInv w l n1 k p n c (i : Int) r).2))) := by
 have hil := (List.getElem?_eq_some_iff.1 hx).1
 have b2 : IntKind.i64.min = -9223372036854775808 := rfl
 have b3 : IntKind.i64.max = 9223372036854775807 := rfl
 have e := marks_miss (f := w) hx hb
 exact ⟨by omega, ⟨hn', hc⟩, ⟨(by rw [b2]; omega : IntKind.i64.min ≤ _), (by rw [b3]; omega : _ ≤ IntKind.i64.max)⟩, ⟨i + 1, by omega, by omega, by rw [e]; exact hr, by rw [e]; exact hn⟩, by simp only [dInv]; omega⟩
theorem e_hit {w : List Ev → Ev → Bool} {l : List Ev} {n1 : Nat} {k : Int} {p : Option Addr} {n c i : Nat} {r rl rl' : List Value} {x : Ev} (hx : l[i]? = some x) (hl : l.length = n1) (hb1 : n1 ≤ 1000) (hb : w (l.take i) x = true) (hr : r = flRow k (idxs (marks w l i) 0)) (hn : n = (idxs (marks w l i) 0).length) (hrl : rl' = (lifeF (l.take (i + 1))).map entL) :
  ((2 * ((n : Int) + 1) * 16 ≤ 281474976710656) ∧ ∀ (p4 : Addr) (c4 : Nat) (r1 : List Value), r1 = r ++ [(Value.int IntKind.i64 k), (Value.int IntKind.i64 (i : Int))] → (n : Int) + 1 ≤ (c4 : Int) → c4 ≤ 9223372036854775807 →
   (((i : Int) + 1) ≤ 9223372036854775807 ∧ (((Int.toNat ((n : Int) + 1)) ≤ 9223372036854775807 ∧ c4 ≤ 9223372036854775807) ∧ (IntKind.i64.min ≤ ((i : Int) + 1) ∧ ((i : Int) + 1) ≤ IntKind.i64.max) ∧ ((eInv w l n1 k ((some p4).map fun p => p.add 0) (Int.toNat ((n : Int) + 1)) c4 ((i : Int) + 1) r1 rl').1 ∧ (eInv w l n1 k ((some p4).map fun p => p.add 0) (Int.toNat ((n : Int) + 1)) c4 ((i : Int) + 1) r1 rl').2 < (eInv w l n1 k p n c (i : Int) r rl).2)))) := by
 have hil := (List.getElem?_eq_some_iff.1 hx).1
 have hm := idx_marks_len w l i
 have b2 : IntKind.i64.min = -9223372036854775808 := rfl
 have b3 : IntKind.i64.max = 9223372036854775807 := rfl
 have e := marks_hit (f := w) hx hb
 refine ⟨by omega, fun p4 c4 r1 hr1 g1 g2 => ⟨by omega, ⟨by omega, g2⟩, ⟨(by rw [b2]; omega : IntKind.i64.min ≤ _), (by rw [b3]; omega : _ ≤ IntKind.i64.max)⟩, ⟨i + 1, by omega, by omega, ?_, ?_, hrl⟩, by simp only [eInv]; omega⟩⟩
 ·rw [hr1, e, flRow_app, hr]
 ·rw [e, List.length_append, ← hn]; simp
theorem e_mis {w : List Ev → Ev → Bool} {l : List Ev} {n1 : Nat} {k : Int} {p : Option Addr} {n c i : Nat} {r rl rl' : List Value} {x : Ev} (hx : l[i]? = some x) (hl : l.length = n1) (hb1 : n1 ≤ 1000) (hb : w (l.take i) x = false) (hr : r = flRow k (idxs (marks w l i) 0)) (hn : n = (idxs (marks w l i) 0).length) (hn' : n ≤ 9223372036854775807) (hc : c ≤ 9223372036854775807) (hrl : rl' = (lifeF (l.take (i + 1))).map entL) :
  (((i : Int) + 1) ≤ 9223372036854775807 ∧ ((n ≤ 9223372036854775807 ∧ c ≤ 9223372036854775807) ∧ (IntKind.i64.min ≤ ((i : Int) + 1) ∧ ((i : Int) + 1) ≤ IntKind.i64.max) ∧ ((eInv w l n1 k (p.map fun p => p.add 0) n c ((i : Int) + 1) r rl').1 ∧ (eInv w l n1 k (p.map fun p => p.add 0) n c ((i : Int) + 1) r rl').2 < (eInv w l n1 k p n c (i : Int) r rl).2))) := by
 have hil := (List.getElem?_eq_some_iff.1 hx).1
 have b2 : IntKind.i64.min = -9223372036854775808 := rfl
 have b3 : IntKind.i64.max = 9223372036854775807 := rfl
 have e := marks_miss (f := w) hx hb
 exact ⟨by omega, ⟨hn', hc⟩, ⟨(by rw [b2]; omega : IntKind.i64.min ≤ _), (by rw [b3]; omega : _ ≤ IntKind.i64.max)⟩, ⟨i + 1, by omega, by omega, by rw [e]; exact hr, by rw [e]; exact hn, hrl⟩, by simp only [eInv]; omega⟩
def gInv (a z : Int) (ms : Int → Prop) (t : Int) : Prop × Nat := ((a ≤ t ∧ t ≤ z ∧ ∀ d, a < d → d ≤ t → ¬ ms d), (z - t).toNat)
theorem lookP_ok {F7 : Int → Prop × Nat} {p0 : Option Addr} {a z t u dd : Int} {m8 : Mem} {r3 : List Value} {N : Prop} {l : List Ev} (hu : a < u) (hu0 : 0 ≤ u) (hz : u ≤ 253402300799) (hd : cellI m8 p0 18 = some (.int .i64 dd)) (hdd : 0 ≤ dd ∧ dd ≤ 1000000) (hr : r3 = (lifeF l).map entL) (hll : l.length ≤ 1000)
  (hN : u + dd < z → (lifeOf l 0 u).b = 0 → N) (hC : ¬ (u + dd < z ∧ (lifeOf l 0 u).b = 0) → ((K.i64 u) ∧ ((F7 u).1 ∧ (F7 u).2 < (F7 t).2))) : lookP F7 p0 a z 0 t u m8 r3 N := by
 have b2 : IntKind.i64.min = -9223372036854775808 := rfl
 have b3 : IntKind.i64.max = 9223372036854775807 := rfl
 have k64 : ∀ v : Int, -9223372036854775808 ≤ v → v ≤ 9223372036854775807 → K.i64 v := fun v h1 h2 => ⟨(by rw [b2]; omega : IntKind.i64.min ≤ _), (by rw [b3]; omega : _ ≤ IntKind.i64.max)⟩
 unfold lookP
 intro x43 hx43
 have e43 : x43 = u := by
  have : x43 = max (u + 0) (a + 1) := hx43
  omega
 subst e43
 refine ⟨k64 _ (by omega) (by omega), dd, hd, k64 _ (by omega) (by omega), by omega, by omega, fun hlt => ?_, fun hge => hC (by omega)⟩
 obtain ⟨f, h1, ⟨r, h2, h3⟩, _⟩ := mfL (lifeF l) 0 x43
 rw [← hr] at h1
 have hb := life_rng _ l rfl 0 x43
 have e0 : ((lGet (lifeF l) 0 x43).getD zeroL) = lifeOf l 0 x43 := rfl
 rw [e0] at h3
 refine ⟨f, h1, fun b3' _ => ⟨r, h2, (lifeOf l 0 x43).b, by rw [h3]; rfl, k64 _ (by omega) (by omega), fun h => hN hlt h, fun h => hC (by omega)⟩⟩
theorem dueP_ok {F7 : Int → Prop × Nat} {p0 : Option Addr} {a z t u dd : Int} {m8 : Mem} {r3 : List Value} {N : Prop} {l : List Ev} (hu : a < u) (ha : 0 ≤ a) (huz : u ≤ z) (hz : z ≤ 253402300799) (hd : cellI m8 p0 18 = some (.int .i64 dd)) (hdd : 0 ≤ dd ∧ dd ≤ 1000000) (hr : r3 = (lifeF l).map entL) (hll : l.length ≤ 1000)
  (hN : u + dd < z → (lifeOf l 0 u).b = 0 → N) (hC : ¬ (u + dd < z ∧ (lifeOf l 0 u).b = 0) → ((K.i64 u) ∧ ((F7 u).1 ∧ (F7 u).2 < (F7 t).2))) : dueP F7 p0 a z 0 t u m8 r3 N := by
 have b2 : IntKind.i64.min = -9223372036854775808 := rfl
 have b3 : IntKind.i64.max = 9223372036854775807 := rfl
 have lk := lookP_ok (F7 := F7) (p0 := p0) (t := t) (m8 := m8) (N := N) hu (by omega) (by omega) hd hdd hr hll hN hC
 unfold dueP
 intro x42 hx42
 have e42 : x42 = u := by
  have : x42 = max u (a + 1) := hx42
  omega
 subst e42
 exact ⟨⟨(by rw [b2]; omega : IntKind.i64.min ≤ _), (by rw [b3]; omega : _ ≤ IntKind.i64.max)⟩, fun _ => ⟨by omega, by omega, fun h => by omega, fun _ => ⟨fun _ => lk, fun _ => lk⟩⟩, fun h => absurd rfl h⟩
end Go.Proofs.YtjabmipkllkfbaaGreatDoor.Vc
namespace Go.Proofs.YtjabmipkllkfbaaGreatDoor.Vc
theorem planE_of {J : JobR} (h : EvJob J) {n : Nat} (hn : n = 0) : EvPlan J.k J.a J.b J.c J.d J.e J.f J.x J.y J.z J.s J.t J.u n := ⟨h.k, h.a, h.b, h.c, h.d, h.e, h.f, h.x, h.y, h.z, hn⟩
theorem cfg_name1 {a b c d t u : Int} {L : List JobR} (h : cfgE a b c d t u L = 0) : ∀ J ∈ L, nameB J.name = true := by
 unfold cfgE at h
 split at h
 ·rename_i h1; exact (h1 h).elim
 ·split at h
  ·cases h
  ·split at h
   ·cases h
   ·rename_i h3
    have ha : L.all (fun J => nameB J.name) = true := by simpa using h3
    exact fun J hJ => List.all_eq_true.1 ha J hJ
theorem outP_ok {J : JobR} {l : List As.Ev} {n1 : Nat} {m3 : Mem} {p0 p1 p2 : Option Addr} {a z : Int} {n2 c2 i : Nat} {r0 : List Value} {x : As.Ev} (hJs : JobsAt m3 p0 1 [J]) (hev : EvJob J) (hx : l[i]? = some x) (hat : EvAt m3 p1 (0 + (i : Int) * 8) x) (hk : x.kind = 1 ∨ x.kind = 5) (hj : x.job = 0) (hdue : 0 ≤ x.due ∧ x.due ≤ 253402300799)
  (hl : l.length = n1) (hb1 : n1 ≤ 1000) (hr : r0 = flRow 5 (idxs (marks (wrF J a z) l i) 0)) (hn : n2 = (idxs (marks (wrF J a z) l i) 0).length) (hn' : n2 ≤ 9223372036854775807) (hc : c2 ≤ 9223372036854775807) :
  outP (dInv (wrF J a z) l n1 5) p0 p1 a z m3 p2 n2 c2 (i : Int) r0 := by
 obtain ⟨J', hJ', ⟨hp0, hh⟩, hnm, hpl, hpo⟩ := hJs.at_ (i := 0) (by omega) (by omega)
 have eJ : J' = J := by simpa using hJ'.symm
 subst eJ
 obtain ⟨a1, a2, a3, a4, a5, a6, a7, a8, a9, a10, a11, a12, a13, q, n, c, s1, s2, s3⟩ := hpl
 have hsn : n = 0 := by rw [← s3.1, hev.skip]; rfl
 obtain ⟨q1, q2, q3, q4, q5, q6, q7, q8⟩ := hat
 rw [hj] at q3
 have hout : (decide (x.kind = 1) || decide (x.kind = 5)) = true := by rcases hk with h | h <;> rw [h] <;> rfl
 have hit := fun h => d_hit (p := p2) (c := c2) (k := 5) hx hl hb1 h hr hn
 have mis := fun h => d_mis (p := p2) (c := c2) (k := 5) hx hl hb1 h hr hn hn' hc
 unfold outP
 refine ⟨0, q3.1, q3.2, by omega, by omega, hp0, (by have := hasI_part hh 1 14 (by omega); simpa using this), x.due, q4.1, q4.2, J'.k, cellI_to a1.1 (by omega), a1.2, J'.a, cellI_to a2.1 (by omega), a2.2, J'.b, cellI_to a3.1 (by omega), a3.2, J'.c, cellI_to a4.1 (by omega), a4.2, J'.d, cellI_to a5.1 (by omega), a5.2, J'.e, cellI_to a6.1 (by omega), a6.2, J'.f, cellI_to a7.1 (by omega), a7.2, J'.x, cellI_to a8 (by omega), J'.y, cellI_to a9 (by omega), J'.z, cellI_to a10.1 (by omega), a10.2, J'.s, cellI_to a11.1 (by omega), a11.2, J'.t, cellI_to a12.1 (by omega), a12.2, J'.u, cellI_to a13.1 (by omega), a13.2, q, n, c, cellI_to s1 (by omega), s2, ⟨by omega, s2.2⟩, ⟨planE_of hev hsn, hev.s.1, hev.s.2, hev.t.1, hev.t.2, hev.u.1, hev.u.2, hdue.1, hdue.2⟩, fun m5 _ b2' x36 _ _ hp => ?_⟩
 obtain ⟨rfl, hb⟩ := hp
 have hw : wrF J' a z (l.take i) x = (!b2' || (decide (x.due ≤ a) || decide (z < x.due))) := by
  unfold wrF
  rw [hout, ← hb]
  rfl
 refine ⟨fun h => absurd rfl h, fun _ => ⟨fun h => hit ?_, fun h => ⟨fun h1 => hit ?_, fun h1 => ⟨fun _ => ⟨fun h2 => hit ?_, fun h2 => mis ?_⟩, fun h => absurd rfl h⟩⟩⟩⟩
 ·rw [hw, h]; rfl
 ·rw [hw, h, decide_eq_true h1]; rfl
 ·rw [hw, h, decide_eq_true h2]; simp
 ·rw [hw, h, decide_eq_false (by omega), decide_eq_false (by omega)]; rfl
def aDue : Sp := { args := [.i .i64, .i .i64, .i .i64, .i .i64, .i .u64, .i .i64, .i .i64, .sl, .i .i64, .i .i64, .sl], grp := [some 8, none, none, none], res := [.sl, .i .i64], rgrp := [none, none], fn := 7, spec := fun a0 a1 a2 a3 a4 a5 a6 a7 a8 a9 a10 a11 a12 a13 a14 => (aDue_pre a0 a1 a2 a3 a4 a5 a6 a7 a8 a9 a10 a11 a12 a13 a14, aDue_post a0 a1 a2 a3 a4 a5 a6 a7 a8 a9 a10 a11 a12 a13 a14) }
def aDue_VC : Prop := ∀ m : Mem, ∀ x0 : Int, mi ≤ x0 → x0 ≤ ma → ∀ x1 : Int, mi ≤ x1 → x1 ≤ ma → ∀ x2 : Int, mi ≤ x2 → x2 ≤ ma → ∀ x3 : Int, mi ≤ x3 → x3 ≤ ma → ∀ x4 : Int, IntKind.u64.min ≤ x4 → x4 ≤ IntKind.u64.max → ∀ x5 : Int, mi ≤ x5 → x5 ≤ ma → ∀ x6 : Int, mi ≤ x6 → x6 ≤ ma → ∀ (p0 : Option Addr) (n0 c0 : Nat), n0 ≤ 9223372036854775807 → c0 ≤ 9223372036854775807 → ∀ x9 : Int, mi ≤ x9 → x9 ≤ ma → ∀ x10 : Int, mi ≤ x10 → x10 ≤ ma → ∀ (p1 : Option Addr) (n1 c1 : Nat), n1 ≤ 9223372036854775807 → c1 ≤ 9223372036854775807 → aDue_pre x0 x1 x2 x3 x4 x5 x6 p0 n0 c0 x9 x10 p1 n1 c1 m →
 ((n0 : Int) = 1 ∧ (0 ≤ x9 ∧ (x9 ≤ 253402300799 ∧ (0 ≤ x10 ∧ (x10 ≤ 253402300799 ∧ (x9 ≤ x10 ∧ ((x10 - x9) ≤ 1000000 ∧ ((x9 + 1) ≤ x10 ∧ ((1 ≤ 9223372036854775807 ∧ c0 ≤ 9223372036854775807) ∧ cChk_pre x0 x1 x2 x3 x4 x5 x6 (p0.map fun p => p.add 0) 1 c0 m ∧ ∀ m1 : Mem, MemSub m m1 → ∀ x13 : Int, mi ≤ x13 → x13 ≤ ma → cChk_post x0 x1 x2 x3 x4 x5 x6 (p0.map fun p => p.add 0) 1 c0 m1 x13 →
 ((x13 ≠ 0 →
 ((K.i64 x13) ∧ aDue_post x0 x1 x2 x3 x4 x5 x6 p0 n0 c0 x9 x10 p1 n1 c1 m1 none 0 0 x13)) ∧
 (x13 = 0 →
 ((1 ≤ 9223372036854775807 ∧ c0 ≤ 9223372036854775807) ∧ cChk_pre x0 x1 x2 x3 x4 x5 x6 (p0.map fun p => p.add 0) 1 c0 m1 ∧ ∀ m2 : Mem, MemSub m1 m2 → ∀ x14 : Int, mi ≤ x14 → x14 ≤ ma → cChk_post x0 x1 x2 x3 x4 x5 x6 (p0.map fun p => p.add 0) 1 c0 m2 x14 →
 ((x14 ≠ 0 →
 ((K.i64 x14) ∧ aDue_post x0 x1 x2 x3 x4 x5 x6 p0 n0 c0 x9 x10 p1 n1 c1 m2 none 0 0 x14)) ∧
 (x14 = 0 →
 ((n1 ≤ 9223372036854775807 ∧ c1 ≤ 9223372036854775807) ∧ tChk_pre (p1.map fun p => p.add 0) n1 c1 1 m2 ∧ ∀ m3 : Mem, MemSub m2 m3 → ∀ x15 : Int, mi ≤ x15 → x15 ≤ ma → ∀ x16 : Int, mi ≤ x16 → x16 ≤ ma → tChk_post (p1.map fun p => p.add 0) n1 c1 1 m3 x15 x16 →
 ((x16 ≠ 0 →
 ((K.i64 x16) ∧ aDue_post x0 x1 x2 x3 x4 x5 x6 p0 n0 c0 x9 x10 p1 n1 c1 m3 none 0 0 x16)) ∧
 (x16 = 0 →
 (∃ F4 : Option Addr → Nat → Nat → Int → List Value → Prop × Nat, ((K.i64 0) ∧ (F4 none 0 0 0 []).1) ∧
 ∀ (p2 : Option Addr) (n2 c2 : Nat), n2 ≤ 9223372036854775807 → c2 ≤ 9223372036854775807 → ∀ x19 : Int, mi ≤ x19 → x19 ≤ ma → ∀ r0 : List Value, (F4 p2 n2 c2 x19 r0).1 →
 ((x19 < (n1 : Int) →
 (0 ≤ x19 ∧ (p1 ≠ none ∧ (HasI m3 p1 (0 + (x19 * 8)) 8 ∧ (∃ x20 : Int, cellI m3 p1 (0 + (x19 * 8)) = some (vI x20) ∧ (K.i64 x20) ∧ ((x20 = 1 →
 (outP F4 p0 p1 x9 x10 m3 p2 n2 c2 x19 r0)) ∧
 (x20 ≠ 1 →
 ((x20 ≠ 5 →
 ((x19 + 1) ≤ 9223372036854775807 ∧ ((n2 ≤ 9223372036854775807 ∧ c2 ≤ 9223372036854775807) ∧ (mi ≤ (x19 + 1) ∧ (x19 + 1) ≤ ma) ∧ ((F4 (p2.map fun p => p.add 0) n2 c2 (x19 + 1) r0).1 ∧ (F4 (p2.map fun p => p.add 0) n2 c2 (x19 + 1) r0).2 < (F4 p2 n2 c2 x19 r0).2)))) ∧
 (x20 = 5 →
 (outP F4 p0 p1 x9 x10 m3 p2 n2 c2 x19 r0)))))))))) ∧
 ((n1 : Int) ≤ x19 →
 (∀ k3 : Nat, (∃ F5 : Option Addr → Nat → Nat → Int → List Value → List Value → Prop × Nat, ((K.i64 0) ∧ (F5 none 0 0 0 [] []).1) ∧
 ∀ (p4 : Option Addr) (n4 c4 : Nat), n4 ≤ 9223372036854775807 → c4 ≤ 9223372036854775807 → ∀ x22 : Int, mi ≤ x22 → x22 ≤ ma → ∀ r2 : List Value, ∀ r3 : List Value, (F5 p4 n4 c4 x22 r2 r3).1 →
 ((x22 < (n1 : Int) →
 (0 ≤ x22 ∧ (p1 ≠ none ∧ (HasI m3 p1 (0 + (x22 * 8)) 8 ∧ (∃ x23 : Int, cellI m3 p1 (0 + (x22 * 8)) = some (vI x23) ∧ (K.i64 x23) ∧ ((5 < x23 →
 ((x22 + 1) ≤ 9223372036854775807 ∧ ((n4 ≤ 9223372036854775807 ∧ c4 ≤ 9223372036854775807) ∧ (mi ≤ (x22 + 1) ∧ (x22 + 1) ≤ ma) ∧ ((F5 (p4.map fun p => p.add 0) n4 c4 (x22 + 1) r2 r3).1 ∧ (F5 (p4.map fun p => p.add 0) n4 c4 (x22 + 1) r2 r3).2 < (F5 p4 n4 c4 x22 r2 r3).2)))) ∧
 (x23 ≤ 5 →
 ((x23 = 4 →
 ((x22 + 1) ≤ 9223372036854775807 ∧ ((n4 ≤ 9223372036854775807 ∧ c4 ≤ 9223372036854775807) ∧ (mi ≤ (x22 + 1) ∧ (x22 + 1) ≤ ma) ∧ ((F5 (p4.map fun p => p.add 0) n4 c4 (x22 + 1) r2 r3).1 ∧ (F5 (p4.map fun p => p.add 0) n4 c4 (x22 + 1) r2 r3).2 < (F5 p4 n4 c4 x22 r2 r3).2)))) ∧
 (x23 ≠ 4 →
 (∃ x24 : Int, cellI m3 p1 ((0 + (x22 * 8)) + 2) = some (vI x24) ∧ (K.i64 x24) ∧ (∃ x25 : Int, cellI m3 p1 ((0 + (x22 * 8)) + 3) = some (vI x25) ∧ (K.i64 x25) ∧ (∃ f : Option (Nat × Value), mFind (Value.agg (List.toArray [(vI x24), (vI x25)])) r3 0 = some f ∧ ∀ b0 : Bool, b0 = mIs f → ∃ r4 : List Value, mHas true f [(vI 0), (vI 0), (vI 0)] r4 ∧ ((x23 = 1 →
 (∃ x26 : Int, rowI r4 1 = some (vI x26) ∧ (K.i64 x26) ∧ ((0 < x26 →
 (∃ x27 : Int, rowI r4 0 = some (vI x27) ∧ (K.i64 x27) ∧ ((x27 + 1) ≤ 9223372036854775807 ∧ (∃ x28 : Int, rowI r4 2 = some (vI x28) ∧ (K.i64 x28) ∧ ((x28 + 1) ≤ 9223372036854775807 ∧ (∃ f : Option (Nat × Value), mFind (Value.agg (List.toArray [(vI x24), (vI x25)])) r3 0 = some f ∧ ∀ r5 : List Value, r5 = mSet f r3 (Value.agg (List.toArray [(vI x24), (vI x25)])) (Value.agg (List.toArray [(vI (x27 + 1)), (vI x26), (vI (x28 + 1))])) → ((2 * ((n4 : Int) + 1) * 16 ≤ 281474976710656) ∧ ∀ (p5 : Addr) (c5 : Nat) (r6 : List Value), r6 = r2 ++ [(vI 6), (vI x22)] → (n4 : Int) + 1 ≤ (c5 : Int) → c5 ≤ 9223372036854775807 → ((x22 + 1) ≤ 9223372036854775807 ∧ (((Int.toNat ((n4 : Int) + 1)) ≤ 9223372036854775807 ∧ c5 ≤ 9223372036854775807) ∧ (mi ≤ (x22 + 1) ∧ (x22 + 1) ≤ ma) ∧ ((F5 ((some p5).map fun p => p.add 0) (Int.toNat ((n4 : Int) + 1)) c5 (x22 + 1) r6 r5).1 ∧ (F5 ((some p5).map fun p => p.add 0) (Int.toNat ((n4 : Int) + 1)) c5 (x22 + 1) r6 r5).2 < (F5 p4 n4 c4 x22 r2 r3).2)))))))))) ∧
 (x26 ≤ 0 →
 (∃ x27 : Int, rowI r4 2 = some (vI x27) ∧ (K.i64 x27) ∧ ((0 < x27 →
 (∃ x28 : Int, rowI r4 0 = some (vI x28) ∧ (K.i64 x28) ∧ ((x28 + 1) ≤ 9223372036854775807 ∧ ((x27 + 1) ≤ 9223372036854775807 ∧ (∃ f : Option (Nat × Value), mFind (Value.agg (List.toArray [(vI x24), (vI x25)])) r3 0 = some f ∧ ∀ r5 : List Value, r5 = mSet f r3 (Value.agg (List.toArray [(vI x24), (vI x25)])) (Value.agg (List.toArray [(vI (x28 + 1)), (vI x26), (vI (x27 + 1))])) → ((2 * ((n4 : Int) + 1) * 16 ≤ 281474976710656) ∧ ∀ (p5 : Addr) (c5 : Nat) (r6 : List Value), r6 = r2 ++ [(vI 6), (vI x22)] → (n4 : Int) + 1 ≤ (c5 : Int) → c5 ≤ 9223372036854775807 → ((x22 + 1) ≤ 9223372036854775807 ∧ (((Int.toNat ((n4 : Int) + 1)) ≤ 9223372036854775807 ∧ c5 ≤ 9223372036854775807) ∧ (mi ≤ (x22 + 1) ∧ (x22 + 1) ≤ ma) ∧ ((F5 ((some p5).map fun p => p.add 0) (Int.toNat ((n4 : Int) + 1)) c5 (x22 + 1) r6 r5).1 ∧ (F5 ((some p5).map fun p => p.add 0) (Int.toNat ((n4 : Int) + 1)) c5 (x22 + 1) r6 r5).2 < (F5 p4 n4 c4 x22 r2 r3).2))))))))) ∧
 (x27 ≤ 0 →
 (∃ x28 : Int, rowI r4 0 = some (vI x28) ∧ (K.i64 x28) ∧ ((0 < x28 →
 (∃ x29 : Int, cellI m3 p1 ((0 + (x22 * 8)) + 4) = some (vI x29) ∧ (K.i64 x29) ∧ ((x28 + 1) ≤ 9223372036854775807 ∧ (∃ f : Option (Nat × Value), mFind (Value.agg (List.toArray [(vI x24), (vI x25)])) r3 0 = some f ∧ ∀ r5 : List Value, r5 = mSet f r3 (Value.agg (List.toArray [(vI x24), (vI x25)])) (Value.agg (List.toArray [(vI (x28 + 1)), (vI x26), (vI (x27 + 1))])) → ((x29 = 1 →
 ((2 * ((n4 : Int) + 1) * 16 ≤ 281474976710656) ∧ ∀ (p5 : Addr) (c5 : Nat) (r6 : List Value), r6 = r2 ++ [(vI 6), (vI x22)] → (n4 : Int) + 1 ≤ (c5 : Int) → c5 ≤ 9223372036854775807 → ((x22 + 1) ≤ 9223372036854775807 ∧ (((Int.toNat ((n4 : Int) + 1)) ≤ 9223372036854775807 ∧ c5 ≤ 9223372036854775807) ∧ (mi ≤ (x22 + 1) ∧ (x22 + 1) ≤ ma) ∧ ((F5 ((some p5).map fun p => p.add 0) (Int.toNat ((n4 : Int) + 1)) c5 (x22 + 1) r6 r5).1 ∧ (F5 ((some p5).map fun p => p.add 0) (Int.toNat ((n4 : Int) + 1)) c5 (x22 + 1) r6 r5).2 < (F5 p4 n4 c4 x22 r2 r3).2))))) ∧
 (x29 ≠ 1 →
 ((x22 + 1) ≤ 9223372036854775807 ∧ ((n4 ≤ 9223372036854775807 ∧ c4 ≤ 9223372036854775807) ∧ (mi ≤ (x22 + 1) ∧ (x22 + 1) ≤ ma) ∧ ((F5 (p4.map fun p => p.add 0) n4 c4 (x22 + 1) r2 r5).1 ∧ (F5 (p4.map fun p => p.add 0) n4 c4 (x22 + 1) r2 r5).2 < (F5 p4 n4 c4 x22 r2 r3).2))))))))) ∧
 (x28 ≤ 0 →
 (∃ f : Option (Nat × Value), mFind (Value.agg (List.toArray [(vI x24), (vI x25)])) r3 0 = some f ∧ ∀ r5 : List Value, r5 = mSet f r3 (Value.agg (List.toArray [(vI x24), (vI x25)])) (Value.agg (List.toArray [(vI (x28 + 1)), (vI x26), (vI (x27 + 1))])) → ((x22 + 1) ≤ 9223372036854775807 ∧ ((n4 ≤ 9223372036854775807 ∧ c4 ≤ 9223372036854775807) ∧ (mi ≤ (x22 + 1) ∧ (x22 + 1) ≤ ma) ∧ ((F5 (p4.map fun p => p.add 0) n4 c4 (x22 + 1) r2 r5).1 ∧ (F5 (p4.map fun p => p.add 0) n4 c4 (x22 + 1) r2 r5).2 < (F5 p4 n4 c4 x22 r2 r3).2)))))))))))))) ∧
 (x23 ≠ 1 →
 ((x23 = 5 →
 (∃ x26 : Int, rowI r4 1 = some (vI x26) ∧ (K.i64 x26) ∧ ((0 < x26 →
 (∃ x27 : Int, rowI r4 0 = some (vI x27) ∧ (K.i64 x27) ∧ ((x27 + 1) ≤ 9223372036854775807 ∧ ((x26 + 1) ≤ 9223372036854775807 ∧ (∃ x28 : Int, rowI r4 2 = some (vI x28) ∧ (K.i64 x28) ∧ (∃ f : Option (Nat × Value), mFind (Value.agg (List.toArray [(vI x24), (vI x25)])) r3 0 = some f ∧ ∀ r5 : List Value, r5 = mSet f r3 (Value.agg (List.toArray [(vI x24), (vI x25)])) (Value.agg (List.toArray [(vI (x27 + 1)), (vI (x26 + 1)), (vI x28)])) → ((2 * ((n4 : Int) + 1) * 16 ≤ 281474976710656) ∧ ∀ (p5 : Addr) (c5 : Nat) (r6 : List Value), r6 = r2 ++ [(vI 6), (vI x22)] → (n4 : Int) + 1 ≤ (c5 : Int) → c5 ≤ 9223372036854775807 → ((x22 + 1) ≤ 9223372036854775807 ∧ (((Int.toNat ((n4 : Int) + 1)) ≤ 9223372036854775807 ∧ c5 ≤ 9223372036854775807) ∧ (mi ≤ (x22 + 1) ∧ (x22 + 1) ≤ ma) ∧ ((F5 ((some p5).map fun p => p.add 0) (Int.toNat ((n4 : Int) + 1)) c5 (x22 + 1) r6 r5).1 ∧ (F5 ((some p5).map fun p => p.add 0) (Int.toNat ((n4 : Int) + 1)) c5 (x22 + 1) r6 r5).2 < (F5 p4 n4 c4 x22 r2 r3).2)))))))))) ∧
 (x26 ≤ 0 →
 (∃ x27 : Int, rowI r4 2 = some (vI x27) ∧ (K.i64 x27) ∧ ((0 < x27 →
 (∃ x28 : Int, rowI r4 0 = some (vI x28) ∧ (K.i64 x28) ∧ ((x28 + 1) ≤ 9223372036854775807 ∧ (∃ f : Option (Nat × Value), mFind (Value.agg (List.toArray [(vI x24), (vI x25)])) r3 0 = some f ∧ ∀ r5 : List Value, r5 = mSet f r3 (Value.agg (List.toArray [(vI x24), (vI x25)])) (Value.agg (List.toArray [(vI (x28 + 1)), (vI (x26 + 1)), (vI x27)])) → ((2 * ((n4 : Int) + 1) * 16 ≤ 281474976710656) ∧ ∀ (p5 : Addr) (c5 : Nat) (r6 : List Value), r6 = r2 ++ [(vI 6), (vI x22)] → (n4 : Int) + 1 ≤ (c5 : Int) → c5 ≤ 9223372036854775807 → ((x22 + 1) ≤ 9223372036854775807 ∧ (((Int.toNat ((n4 : Int) + 1)) ≤ 9223372036854775807 ∧ c5 ≤ 9223372036854775807) ∧ (mi ≤ (x22 + 1) ∧ (x22 + 1) ≤ ma) ∧ ((F5 ((some p5).map fun p => p.add 0) (Int.toNat ((n4 : Int) + 1)) c5 (x22 + 1) r6 r5).1 ∧ (F5 ((some p5).map fun p => p.add 0) (Int.toNat ((n4 : Int) + 1)) c5 (x22 + 1) r6 r5).2 < (F5 p4 n4 c4 x22 r2 r3).2)))))))) ∧
 (x27 ≤ 0 →
 (∃ x28 : Int, rowI r4 0 = some (vI x28) ∧ (K.i64 x28) ∧ ((0 < x28 →
 ((x28 + 1) ≤ 9223372036854775807 ∧ (∃ f : Option (Nat × Value), mFind (Value.agg (List.toArray [(vI x24), (vI x25)])) r3 0 = some f ∧ ∀ r5 : List Value, r5 = mSet f r3 (Value.agg (List.toArray [(vI x24), (vI x25)])) (Value.agg (List.toArray [(vI (x28 + 1)), (vI (x26 + 1)), (vI x27)])) → ((x22 + 1) ≤ 9223372036854775807 ∧ ((n4 ≤ 9223372036854775807 ∧ c4 ≤ 9223372036854775807) ∧ (mi ≤ (x22 + 1) ∧ (x22 + 1) ≤ ma) ∧ ((F5 (p4.map fun p => p.add 0) n4 c4 (x22 + 1) r2 r5).1 ∧ (F5 (p4.map fun p => p.add 0) n4 c4 (x22 + 1) r2 r5).2 < (F5 p4 n4 c4 x22 r2 r3).2)))))) ∧
 (x28 ≤ 0 →
 (∃ f : Option (Nat × Value), mFind (Value.agg (List.toArray [(vI x24), (vI x25)])) r3 0 = some f ∧ ∀ r5 : List Value, r5 = mSet f r3 (Value.agg (List.toArray [(vI x24), (vI x25)])) (Value.agg (List.toArray [(vI (x28 + 1)), (vI (x26 + 1)), (vI x27)])) → ((x22 + 1) ≤ 9223372036854775807 ∧ ((n4 ≤ 9223372036854775807 ∧ c4 ≤ 9223372036854775807) ∧ (mi ≤ (x22 + 1) ∧ (x22 + 1) ≤ ma) ∧ ((F5 (p4.map fun p => p.add 0) n4 c4 (x22 + 1) r2 r5).1 ∧ (F5 (p4.map fun p => p.add 0) n4 c4 (x22 + 1) r2 r5).2 < (F5 p4 n4 c4 x22 r2 r3).2)))))))))))))) ∧
 (x23 ≠ 5 →
 ((x23 = 2 →
 (∃ x26 : Int, rowI r4 1 = some (vI x26) ∧ (K.i64 x26) ∧ ((x26 + 1) ≤ 9223372036854775807 ∧ (∃ x27 : Int, rowI r4 2 = some (vI x27) ∧ (K.i64 x27) ∧ ((-9223372036854775808 : Int) ≤ (x27 - 1) ∧ (∃ x28 : Int, rowI r4 0 = some (vI x28) ∧ (K.i64 x28) ∧ (∃ f : Option (Nat × Value), mFind (Value.agg (List.toArray [(vI x24), (vI x25)])) r3 0 = some f ∧ ∀ r5 : List Value, r5 = mSet f r3 (Value.agg (List.toArray [(vI x24), (vI x25)])) (Value.agg (List.toArray [(vI x28), (vI (x26 + 1)), (vI (x27 - 1))])) → ((x22 + 1) ≤ 9223372036854775807 ∧ ((n4 ≤ 9223372036854775807 ∧ c4 ≤ 9223372036854775807) ∧ (mi ≤ (x22 + 1) ∧ (x22 + 1) ≤ ma) ∧ ((F5 (p4.map fun p => p.add 0) n4 c4 (x22 + 1) r2 r5).1 ∧ (F5 (p4.map fun p => p.add 0) n4 c4 (x22 + 1) r2 r5).2 < (F5 p4 n4 c4 x22 r2 r3).2)))))))))) ∧
 (x23 ≠ 2 →
 ((x23 = 3 →
 (∃ x26 : Int, rowI r4 2 = some (vI x26) ∧ (K.i64 x26) ∧ ((-9223372036854775808 : Int) ≤ (x26 - 1) ∧ (∃ x27 : Int, rowI r4 0 = some (vI x27) ∧ (K.i64 x27) ∧ (∃ x28 : Int, rowI r4 1 = some (vI x28) ∧ (K.i64 x28) ∧ (∃ f : Option (Nat × Value), mFind (Value.agg (List.toArray [(vI x24), (vI x25)])) r3 0 = some f ∧ ∀ r5 : List Value, r5 = mSet f r3 (Value.agg (List.toArray [(vI x24), (vI x25)])) (Value.agg (List.toArray [(vI x27), (vI x28), (vI (x26 - 1))])) → ((x22 + 1) ≤ 9223372036854775807 ∧ ((n4 ≤ 9223372036854775807 ∧ c4 ≤ 9223372036854775807) ∧ (mi ≤ (x22 + 1) ∧ (x22 + 1) ≤ ma) ∧ ((F5 (p4.map fun p => p.add 0) n4 c4 (x22 + 1) r2 r5).1 ∧ (F5 (p4.map fun p => p.add 0) n4 c4 (x22 + 1) r2 r5).2 < (F5 p4 n4 c4 x22 r2 r3).2))))))))) ∧
 (x23 ≠ 3 →
 (∃ x26 : Int, rowI r4 0 = some (vI x26) ∧ (K.i64 x26) ∧ (∃ x27 : Int, rowI r4 1 = some (vI x27) ∧ (K.i64 x27) ∧ (∃ x28 : Int, rowI r4 2 = some (vI x28) ∧ (K.i64 x28) ∧ (∃ f : Option (Nat × Value), mFind (Value.agg (List.toArray [(vI x24), (vI x25)])) r3 0 = some f ∧ ∀ r5 : List Value, r5 = mSet f r3 (Value.agg (List.toArray [(vI x24), (vI x25)])) (Value.agg (List.toArray [(vI x26), (vI x27), (vI x28)])) → ((x22 + 1) ≤ 9223372036854775807 ∧ ((n4 ≤ 9223372036854775807 ∧ c4 ≤ 9223372036854775807) ∧ (mi ≤ (x22 + 1) ∧ (x22 + 1) ≤ ma) ∧ ((F5 (p4.map fun p => p.add 0) n4 c4 (x22 + 1) r2 r5).1 ∧ (F5 (p4.map fun p => p.add 0) n4 c4 (x22 + 1) r2 r5).2 < (F5 p4 n4 c4 x22 r2 r3).2))))))))))))))))))))))))))) ∧
 ((n1 : Int) ≤ x22 →
 (p0 ≠ none ∧ (HasI m3 p0 0 30 ∧ (∃ s0 : List UInt8, cellI m3 p0 0 = some (Value.string ⟨List.toArray s0⟩) ∧ (∃ x23 : Int, cellI m3 p0 17 = some (vI x23) ∧ (K.i64 x23) ∧ (hSpl_pre s0 x4 x23 m3 ∧ ∀ m6 : Mem, MemSub m3 m6 → ∀ x24 : Int, mi ≤ x24 → x24 ≤ ma → ∀ x25 : Int, mi ≤ x25 → x25 ≤ ma → hSpl_post s0 x4 x23 m6 x24 x25 →
 (∃ F7 : Int → Prop × Nat, ((K.i64 x9) ∧ (F7 x9).1) ∧
 ∀ x26 : Int, mi ≤ x26 → x26 ≤ ma → (F7 x26).1 →
 (∃ x27 : Int, cellI m6 p0 1 = some (vI x27) ∧ (K.i64 x27) ∧ (∃ x28 : Int, cellI m6 p0 2 = some (Value.int IntKind.u64 x28) ∧ (K.u64 x28) ∧ (∃ x29 : Int, cellI m6 p0 3 = some (Value.int IntKind.u64 x29) ∧ (K.u64 x29) ∧ (∃ x30 : Int, cellI m6 p0 4 = some (Value.int IntKind.u64 x30) ∧ (K.u64 x30) ∧ (∃ x31 : Int, cellI m6 p0 5 = some (Value.int IntKind.u64 x31) ∧ (K.u64 x31) ∧ (∃ x32 : Int, cellI m6 p0 6 = some (Value.int IntKind.u64 x32) ∧ (K.u64 x32) ∧ (∃ x33 : Int, cellI m6 p0 7 = some (Value.int IntKind.u64 x33) ∧ (K.u64 x33) ∧ (∃ b0 : Bool, cellI m6 p0 8 = some (Value.bool b0) ∧ (∃ b1 : Bool, cellI m6 p0 9 = some (Value.bool b1) ∧ (∃ x34 : Int, cellI m6 p0 10 = some (vI x34) ∧ (K.i64 x34) ∧ (∃ x35 : Int, cellI m6 p0 11 = some (vI x35) ∧ (K.i64 x35) ∧ (∃ x36 : Int, cellI m6 p0 12 = some (vI x36) ∧ (K.i64 x36) ∧ (∃ x37 : Int, cellI m6 p0 13 = some (vI x37) ∧ (K.i64 x37) ∧ (∃ (p5 : Option Addr) (n5 c5 : Nat), cellI m6 p0 14 = some (Value.slice p5 n5 c5) ∧ (n5 ≤ c5 ∧ c5 ≤ 9223372036854775807) ∧ ((n5 ≤ 9223372036854775807 ∧ c5 ≤ 9223372036854775807) ∧ plNx_pre x27 x28 x29 x30 x31 x32 x33 b0 b1 x34 x35 x36 x37 (p5.map fun p => p.add 0) n5 c5 x26 m6 ∧ ∀ m8 : Mem, MemSub m6 m8 → ∀ x40 : Int, mi ≤ x40 → x40 ≤ ma → ∀ b2 : Bool, ∀ x41 : Int, mi ≤ x41 → x41 ≤ ma → plNx_post x27 x28 x29 x30 x31 x32 x33 b0 b1 x34 x35 x36 x37 (p5.map fun p => p.add 0) n5 c5 x26 m8 x40 b2 x41 →
 ((x41 ≠ 0 →
 (endN n2 n4 r0 r2 p2 m8 (fun m q n c => aDue_post x0 x1 x2 x3 x4 x5 x6 p0 n0 c0 x9 x10 p1 n1 c1 m q n c 0))) ∧
 (x41 = 0 →
 ((b2 = false →
 (endN n2 n4 r0 r2 p2 m8 (fun m q n c => aDue_post x0 x1 x2 x3 x4 x5 x6 p0 n0 c0 x9 x10 p1 n1 c1 m q n c 0))) ∧
 (b2 = true →
 ((x10 < x40 →
 (endN n2 n4 r0 r2 p2 m8 (fun m q n c => aDue_post x0 x1 x2 x3 x4 x5 x6 p0 n0 c0 x9 x10 p1 n1 c1 m q n c 0))) ∧
 (x40 ≤ x10 →
 ((x40 < x10 →
 (dueP F7 p0 x9 x10 x24 x26 x40 m8 r3 (endM n2 n4 r0 r2 m8 (fun m q n c => aDue_post x0 x1 x2 x3 x4 x5 x6 p0 n0 c0 x9 x10 p1 n1 c1 m q n c 0)))) ∧
 (x10 ≤ x40 →
 (dueP F7 p0 x9 x10 x24 x26 x40 m8 r3 (endM n2 n4 r0 r2 m8 (fun m q n c => aDue_post x0 x1 x2 x3 x4 x5 x6 p0 n0 c0 x9 x10 p1 n1 c1 m q n c 0))))))))))))))))))))))))))))))))))))))))))))))))))))))))
set_option maxHeartbeats 4000000 in
theorem aDue_vc : aDue_VC := by
 intro m x0 _ _ x1 _ _ x2 _ _ x3 _ _ x4 _ _ x5 _ _ x6 _ _ p0 n0 c0 hn0 hc0 x9 h91 h92 x10 _ _ p1 n1 c1 hn1 hc1 hpre
 obtain ⟨⟨⟨hgs, hgm⟩, hone, ⟨hy0, hyz, hz, hzy⟩, hb1⟩, J, l, hJ, hl, hev, hcf, ti, htr⟩ := hpre
 subst hone
 have b2 : IntKind.i64.min = -9223372036854775808 := rfl
 have b3 : IntKind.i64.max = 9223372036854775807 := rfl
 have k64 : ∀ v : Int, -9223372036854775808 ≤ v → v ≤ 9223372036854775807 → K.i64 v := fun v h1 h2 => ⟨(by rw [b2]; omega : IntKind.i64.min ≤ _), (by rw [b3]; omega : _ ≤ IntKind.i64.max)⟩
 have kz : K.i64 0 := k64 0 (by omega) (by omega)
 have hln := hl.1
 obtain ⟨hjl, hevs⟩ := trcE_ok htr
 obtain ⟨_, _, hjob⟩ := cfg_ok hcf
 refine ⟨rfl, hy0, by omega, by omega, hz, by omega, hzy, hyz, ⟨by omega, hc0⟩, ⟨hgs, [J], by rw [map_add0]; exact hJ⟩, fun m1 hm1 x13 _ _ hc1' => ?_⟩
 rw [map_add0] at hc1' ⊢
 have e13 : x13 = 0 := (hc1' [J] (hJ.sub hm1)).trans hcf
 refine ⟨fun h => absurd e13 h, fun _ => ⟨⟨by omega, hc0⟩, ⟨hgs.sub hm1, [J], hJ.sub hm1⟩, fun m2 hm2 x14 _ _ hc2' => ?_⟩⟩
 have e14 : x14 = 0 := (hc2' [J] ((hJ.sub hm1).sub hm2)).trans hcf
 refine ⟨fun h => absurd e14 h, fun _ => ⟨⟨hn1, hc1⟩, ⟨l, by rw [map_add0]; exact (hl.sub hm1).sub hm2⟩, fun m3 hm3 x15 _ _ x16 _ _ ht => ?_⟩⟩
 rw [map_add0] at ht
 have hl3 := ((hl.sub hm1).sub hm2).sub hm3
 have hJ3 := ((hJ.sub hm1).sub hm2).sub hm3
 have hgm3 := ((hgm.sub hm1).sub hm2).sub hm3
 have e16 : x16 = 0 := by
  have := (ht l hl3).trans htr.symm
  exact (Prod.mk.inj this).2
 refine ⟨fun h => absurd e16 h, fun _ => ?_⟩
 refine ⟨dInv (wrF J x9 x10) l n1 5, ⟨kz, 0, rfl, by omega, rfl, rfl⟩, ?_⟩
 intro p2 n2 c2 hn2 hc2 x19 _ _ r0 hinv
 obtain ⟨i, rfl, hi, hr0, hn2e⟩ := hinv
 refine ⟨fun hlt => ?_, fun hge => ?_⟩
 ·obtain ⟨x, hx, hp, hat, hhas⟩ := hl3.at_ (i := (i : Int)) (by omega) hlt
  rw [Int.toNat_natCast] at hx
  obtain ⟨hvP, hvj, _⟩ := evErr_valid (hevs i x hx)
  have hj : x.kind ≠ 6 → x.job = 0 := fun h => by
   have h1 := evP_job hvP h
   have h2 := hvj h
   omega
  refine ⟨by omega, hp, hhas, x.kind, hat.1.1, hat.1.2, fun hk => ?_, fun hk => ⟨fun hk5 => ?_, fun hk5 => ?_⟩⟩
  ·exact outP_ok hJ3 hev hx hat (.inl hk) (hj (by omega)) (ev_dueO hvP (.inl hk)) hln hb1 hr0 hn2e hn2 hc2
  ·refine d_mis hx hln hb1 ?_ hr0 hn2e hn2 hc2
   unfold wrF
   rw [decide_eq_false hk, decide_eq_false hk5]; rfl
  ·exact outP_ok hJ3 hev hx hat (.inr hk5) (hj (by omega)) (ev_dueO hvP (.inr hk5)) hln hb1 hr0 hn2e hn2 hc2
 have hii : i = l.length := by omega
 subst hii
 intro k3
 refine ⟨eInv twiF l n1 6, ⟨kz, 0, rfl, by omega, rfl, rfl, rfl⟩, ?_⟩
 intro p4 n4 c4 hn4 hc4 x22 _ _ r2 r3 hinv
 obtain ⟨i, rfl, hi, hr2, hn4e, hr3⟩ := hinv
 refine ⟨fun hlt => ?_, fun hge => ?_⟩
 ·obtain ⟨x, hx, hp, hat, hhas⟩ := hl3.at_ (i := (i : Int)) (by omega) hlt
  rw [Int.toNat_natCast] at hx
  have hil := (List.getElem?_eq_some_iff.1 hx).1
  have htk : l.take (i + 1) = l.take i ++ [x] := by
   obtain ⟨hi2, e⟩ := List.getElem?_eq_some_iff.1 hx
   rw [← e, List.take_append_getElem]
  have hskip : ¬ usesL x → (lifeF (l.take (i + 1))).map entL = (lifeF (l.take i)).map entL := fun h => by rw [htk, lifeF_snoc, if_neg h]
  have hno : x.kind ≠ 1 → x.kind ≠ 5 → twiF (l.take i) x = false := fun h1 h5 => by
   unfold twiF
   rw [decide_eq_false h1, decide_eq_false h5]; rfl
  obtain ⟨q1, q2, q3, q4, q5, q6, q7, q8⟩ := hat
  refine ⟨by omega, hp, hhas, x.kind, q1.1, q1.2, fun h5 => ?_, fun h5 => ⟨fun h4 => ?_, fun h4 => ?_⟩⟩
  ·exact e_mis hx hln hb1 (hno (by omega) (by omega)) hr2 hn4e hn4 hc4 (by rw [hskip (fun h => by unfold usesL at h; omega)]; exact hr3)
  ·exact e_mis hx hln hb1 (hno (by omega) (by omega)) hr2 hn4e hn4 hc4 (by rw [hskip (fun h => by unfold usesL at h; omega)]; exact hr3)
  have hu : usesL x := ⟨h5, h4⟩
  obtain ⟨f, hf, ⟨r4, hh4, hr4⟩, hset⟩ := mfL (lifeF (l.take i)) x.job x.due
  rw [← hr3] at hf hset
  have e0 : ((lGet (lifeF (l.take i)) x.job x.due).getD zeroL) = lifeOf (l.take i) x.job x.due := rfl
  rw [e0] at hr4
  have hrng := life_rng _ (l.take i) rfl x.job x.due
  have htl : (l.take i).length = i := by rw [List.length_take]; omega
  have hsn : ∀ L : Life, L = lifeS x (lifeOf (l.take i) x.job x.due) → ∀ r5 : List Value, r5 = mSet f r3 (okey x.job x.due) (lifeV L) → r5 = (lifeF (l.take (i + 1))).map entL := fun L hL r5 h => by
   rw [h, hset, htk, lifeF_snoc, if_pos hu, hL]
  have htw : twiF (l.take i) x = ((decide (x.kind = 1) || decide (x.kind = 5)) && (decide (0 < (lifeOf (l.take i) x.job x.due).e) || (decide (0 < (lifeOf (l.take i) x.job x.due).u) || (decide (0 < (lifeOf (l.take i) x.job x.due).b) && (decide (x.kind = 1) && decide (x.attempt = 1)))))) := rfl
  have hS : lifeS x (lifeOf (l.take i) x.job x.due) = lifeS x (lifeOf (l.take i) x.job x.due) := rfl
  generalize lifeOf (l.take i) x.job x.due = LL at *
  obtain ⟨B, E, U⟩ := LL
  simp only at hrng
  have kB : K.i64 B := k64 _ (by omega) (by omega)
  have kE : K.i64 E := k64 _ (by omega) (by omega)
  have kU : K.i64 U := k64 _ (by omega) (by omega)
  have cB : rowI r4 0 = some (.int .i64 B) := by rw [hr4]; rfl
  have cE : rowI r4 1 = some (.int .i64 E) := by rw [hr4]; rfl
  have cU : rowI r4 2 = some (.int .i64 U) := by rw [hr4]; rfl
  have hit := fun (rl' : List Value) h1 h2 => e_hit (p := p4) (c := c4) (k := 6) (rl := r3) (rl' := rl') hx hln hb1 h1 hr2 hn4e h2
  have mis := fun (rl' : List Value) h1 h2 => e_mis (p := p4) (c := c4) (k := 6) (rl := r3) (rl' := rl') hx hln hb1 h1 hr2 hn4e hn4 hc4 h2
  refine ⟨x.job, q3.1, q3.2, x.due, q4.1, q4.2, f, hf, fun b0 _ => ⟨r4, hh4, fun k1 => ?_, fun k1 => ⟨fun k5 => ?_, fun k5 => ⟨fun k2 => ?_, fun k2 => ⟨fun k3' => ?_, fun k3' => ?_⟩⟩⟩⟩⟩
  ·have hLS : lifeS x ⟨B, E, U⟩ = ⟨B + 1, E, U + 1⟩ := by unfold lifeS; rw [if_pos k1]
   refine ⟨E, cE, kE, fun g1 => ?_, fun g1 => ⟨U, cU, kU, fun g2 => ?_, fun g2 => ⟨B, cB, kB, fun g3 => ?_, fun g3 => ?_⟩⟩⟩
   ·exact ⟨B, cB, kB, by omega, U, cU, kU, by omega, f, hf, fun r5 h5' => hit r5 (by rw [htw, k1, decide_eq_true g1]; rfl) (hsn _ hLS.symm r5 h5')⟩
   ·exact ⟨B, cB, kB, by omega, by omega, f, hf, fun r5 h5' => hit r5 (by rw [htw, k1, decide_eq_true g2]; simp) (hsn _ hLS.symm r5 h5')⟩
   ·refine ⟨x.attempt, q5.1, q5.2, by omega, f, hf, fun r5 h5' => ⟨fun g4 => hit r5 (by rw [htw, k1, decide_eq_true g3, g4]; simp) (hsn _ hLS.symm r5 h5'), fun g4 => mis r5 (by rw [htw, decide_eq_false (show ¬ 0 < E by omega), decide_eq_false (show ¬ 0 < U by omega), decide_eq_false g4]; simp) (hsn _ hLS.symm r5 h5')⟩⟩
   ·exact ⟨f, hf, fun r5 h5' => mis r5 (by rw [htw, decide_eq_false (show ¬ 0 < E by omega), decide_eq_false (show ¬ 0 < U by omega), decide_eq_false (show ¬ 0 < B by omega)]; simp) (hsn _ hLS.symm r5 h5')⟩
  ·have hLS : lifeS x ⟨B, E, U⟩ = ⟨B + 1, E + 1, U⟩ := by unfold lifeS; rw [if_neg k1, if_pos k5]
   refine ⟨E, cE, kE, fun g1 => ?_, fun g1 => ⟨U, cU, kU, fun g2 => ?_, fun g2 => ⟨B, cB, kB, fun g3 => ?_, fun g3 => ?_⟩⟩⟩
   ·exact ⟨B, cB, kB, by omega, by omega, U, cU, kU, f, hf, fun r5 h5' => hit r5 (by rw [htw, k5, decide_eq_true g1]; rfl) (hsn _ hLS.symm r5 h5')⟩
   ·exact ⟨B, cB, kB, by omega, f, hf, fun r5 h5' => hit r5 (by rw [htw, k5, decide_eq_true g2]; simp) (hsn _ hLS.symm r5 h5')⟩
   ·exact ⟨by omega, f, hf, fun r5 h5' => mis r5 (by rw [htw, decide_eq_false (show ¬ 0 < E by omega), decide_eq_false (show ¬ 0 < U by omega), decide_eq_false k1]; simp) (hsn _ hLS.symm r5 h5')⟩
   ·exact ⟨f, hf, fun r5 h5' => mis r5 (by rw [htw, decide_eq_false (show ¬ 0 < E by omega), decide_eq_false (show ¬ 0 < U by omega), decide_eq_false k1]; simp) (hsn _ hLS.symm r5 h5')⟩
  ·have hLS : lifeS x ⟨B, E, U⟩ = ⟨B, E + 1, U - 1⟩ := by unfold lifeS; rw [if_neg k1, if_neg k5, if_pos k2]
   exact ⟨E, cE, kE, by omega, U, cU, kU, by omega, B, cB, kB, f, hf, fun r5 h5' => mis r5 (hno k1 k5) (hsn _ hLS.symm r5 h5')⟩
  ·have hLS : lifeS x ⟨B, E, U⟩ = ⟨B, E, U - 1⟩ := by unfold lifeS; rw [if_neg k1, if_neg k5, if_neg k2, if_pos k3']
   exact ⟨U, cU, kU, by omega, B, cB, kB, E, cE, kE, f, hf, fun r5 h5' => mis r5 (hno k1 k5) (hsn _ hLS.symm r5 h5')⟩
  ·have hLS : lifeS x ⟨B, E, U⟩ = ⟨B, E, U⟩ := by unfold lifeS; rw [if_neg k1, if_neg k5, if_neg k2, if_neg k3']
   exact ⟨B, cB, kB, E, cE, kE, U, cU, kU, f, hf, fun r5 h5' => mis r5 (hno k1 k5) (hsn _ hLS.symm r5 h5')⟩
 have hii : i = l.length := by omega
 subst hii
 rw [List.take_length] at hr3
 obtain ⟨J', hJ', ⟨hp0, hh⟩, hnm, hpl, hpo⟩ := hJ3.at_ (i := 0) (by omega) (by omega)
 have eJ : J' = J := by simpa using hJ'.symm
 subst eJ
 have hsp := hpo.2.2.1
 rw [hev.splay] at hsp
 refine ⟨hp0, (by simpa using hh), J'.name, cellI_to hnm.1 (by omega), 0, cellI_to hsp.1 (by omega), hsp.2, ⟨hgm3, rfl, cfg_name1 hcf J' (List.mem_singleton.2 rfl)⟩, fun m6 hm6 x24 _ _ x25 _ _ hspl => ?_⟩
 obtain ⟨rfl, _⟩ := hspl
 have hJ6 := hJ3.sub hm6
 have hl6 := hl3.sub hm6
 have hnum := hev.num
 have lW : r0.length = n2 * 2 := by rw [hr0, hn2e, flRow_len]; omega
 have lT : r2.length = n4 * 2 := by rw [hr2, hn4e, flRow_len]; omega
 have bW := idx_marks_len (wrF J' x9 x10) l l.length
 have bT := idx_marks_len twiF l l.length
 refine ⟨gInv x9 x10 (missP J' x10 l), ⟨⟨h91, h92⟩, by omega, by omega, fun d h1 h2 => by omega⟩, ?_⟩
 intro t _ _ hg
 obtain ⟨ht0, ht1, htn⟩ := hg
 obtain ⟨J2, hJ2, ⟨hp02, hh2⟩, hnm2, hpl2, hpo2⟩ := hJ6.at_ (i := 0) (by omega) (by omega)
 have eJ : J2 = J' := by simpa using hJ2.symm
 subst eJ
 obtain ⟨a1, a2, a3, a4, a5, a6, a7, a8, a9, a10, a11, a12, a13, q, n, c, s1, s2, s3⟩ := hpl2
 have hsn : n = 0 := by rw [← s3.1, hev.skip]; rfl
 refine ⟨J2.k, cellI_to a1.1 (by omega), a1.2, J2.a, cellI_to a2.1 (by omega), a2.2, J2.b, cellI_to a3.1 (by omega), a3.2, J2.c, cellI_to a4.1 (by omega), a4.2, J2.d, cellI_to a5.1 (by omega), a5.2, J2.e, cellI_to a6.1 (by omega), a6.2, J2.f, cellI_to a7.1 (by omega), a7.2, J2.x, cellI_to a8 (by omega), J2.y, cellI_to a9 (by omega), J2.z, cellI_to a10.1 (by omega), a10.2, J2.s, cellI_to a11.1 (by omega), a11.2, J2.t, cellI_to a12.1 (by omega), a12.2, J2.u, cellI_to a13.1 (by omega), a13.2, q, n, c, cellI_to s1 (by omega), s2, ⟨by omega, s2.2⟩, ⟨planE_of hev hsn, hev.s.1, hev.s.2, hev.t.1, hev.t.2, hev.u.1, hev.u.2, by omega, by omega⟩, fun m8 hm8 u hu1 hu2 b2' x41 _ _ hp => ?_⟩
 obtain ⟨rfl, hnx⟩ := hp
 have hdead := (hpo2.2.2.2.1.sub hm8)
 -- the ends
 have ps : ∀ (M : Bool), (M = true ↔ anyM J2 x9 x10 l) → ∀ m9 q c, MemSub m8 m9 → RowM m9 q (dueR J2 x9 x10 l M) → aDue_post x0 x1 x2 x3 x4 x5 x6 p0 1 c0 x9 x10 p1 n1 c1 m9 q (dueN J2 x9 x10 l M) c 0 := by
  intro M hM m9 q c hm9 hrow Ja la hJa hla
  have hup := (((((hm1.trans hm2).trans hm3).trans hm6).trans hm8).trans hm9)
  have e1 : [J2] = [Ja] := hJ.uniq hup hJa
  have e2 : l = la := hl.uniq hup hla
  cases e1
  subst e2
  exact ⟨rfl, M, hM, hrow, rfl⟩
 have endn : (¬ anyM J2 x9 x10 l) → endN n2 n4 r0 r2 p2 m8 (fun m q n c => aDue_post x0 x1 x2 x3 x4 x5 x6 p0 1 c0 x9 x10 p1 n1 c1 m q n c 0) := fun hno => by
  refine endN_ok lW lT (by omega) (by omega) (fun m9 q c hm9 hrow => ?_)
  have h := ps false ⟨(fun h => by cases h), fun h => absurd h hno⟩ m9 q c hm9 (by unfold dueR; rw [if_neg (by simp), List.append_nil, ← hr0, ← hr2]; exact hrow)
  have e : dueN J2 x9 x10 l false = n2 + n4 := by unfold dueN; rw [if_neg (by simp), ← hn2e, ← hn4e, Nat.add_zero]
  rw [e] at h
  exact h
 have endm : anyM J2 x9 x10 l → endM n2 n4 r0 r2 m8 (fun m q n c => aDue_post x0 x1 x2 x3 x4 x5 x6 p0 1 c0 x9 x10 p1 n1 c1 m q n c 0) := fun hyes => by
  refine endM_ok lW lT (by omega) (by omega) (fun m9 q c hm9 hrow => ?_)
  have h := ps true ⟨fun _ => hyes, fun _ => rfl⟩ m9 q c hm9 (by unfold dueR; rw [if_pos rfl, ← hr0, ← hr2]; exact hrow)
  have e : dueN J2 x9 x10 l true = n2 + n4 + 1 := by unfold dueN; rw [if_pos rfl, ← hn2e, ← hn4e]
  rw [e] at h
  exact h
 have none_ : ∀ v : Int, t ≤ v → v ≤ x10 ∨ True → (∀ d, t < d → d ≤ x10 → evIsP J2.s J2.t J2.u d = false) → ¬ anyM J2 x9 x10 l := fun v _ _ h ⟨d, d1, d2, d3⟩ => by
  by_cases hd : d ≤ t
  ·exact htn d d1 hd d3
  ·have := h d (by omega) d2
   rw [d3.1] at this; cases this
 refine ⟨fun h => absurd rfl h, fun _ => ⟨fun hb => endn ?_, fun hb => ?_⟩⟩
 ·split at hnx
  ·rw [hnx.1] at hb; cases hb
  ·rename_i hlt
   exact none_ t (by omega) (.inr trivial) (fun d d1 _ => nx_none hev.t.1 (by omega) hlt d d1)
 ·split at hnx
  ·rename_i hlt
   obtain ⟨_, hue⟩ := hnx
   obtain ⟨g1, g2, g3⟩ := nx_some hev.t.1 (by omega) hlt
   rw [← hue] at g1 g2 g3
   refine ⟨fun hgt => endn (none_ t (by omega) (.inr trivial) (fun d d1 d2 => g3 d d1 (by omega))), fun hle => ?_⟩
   have main : dueP (gInv x9 x10 (missP J2 x10 l)) p0 x9 x10 0 t u m8 r3 (endM n2 n4 r0 r2 m8 (fun m q n c => aDue_post x0 x1 x2 x3 x4 x5 x6 p0 1 c0 x9 x10 p1 n1 c1 m q n c 0)) := by
    refine dueP_ok (by omega) hy0 hle hz (cellI_to hdead.1 (by omega)) hev.dead hr3 (by omega) (fun h1 h2 => endm ⟨u, by omega, hle, g2, h1, h2⟩) (fun hnm => ⟨⟨hu1, hu2⟩, ⟨by omega, hle, fun d d1 d2 hms => ?_⟩, by simp only [gInv]; omega⟩)
    by_cases hd : d ≤ t
    ·exact htn d d1 hd hms
    ·by_cases hdu : d = u
     ·subst hdu
      exact hnm ⟨hms.2.1, hms.2.2⟩
     ·have := g3 d (by omega) (by omega)
      rw [hms.1] at this; cases this
   exact ⟨fun _ => main, fun _ => main⟩
  ·rw [hnx.1] at hb; cases hb
theorem aDue_pg : ∀ m, forallF aDue.args aDue.spec fun r => r.1 m → GlobsAt m [] := fun m _ _ _ _ _ _ _ _ _ _ _ _ _ _ _ _ => trivial
theorem aDue_ok : SpOk Tryz.prog aDue :=
 con_okN [] oneF [] rfl (sps_of [cChk, tChk, plIs, plNx, hSpl] ⟨cChk_ok, ⟨tChk_ok, ⟨plIs_ok, ⟨plNx_ok, ⟨hSpl_ok, trivial⟩⟩⟩⟩⟩ rfl) (tab_okM _ [⟨(29, 3), [], [], [(7, 41)], [3]⟩, ⟨(29, 3), [], [], [(7, 41)], []⟩, ⟨(40, 1), [], [], [], []⟩] [133]) 1000 aDue _ rfl rfl aDue_pg (Eq.mp (show aDue_VC = _ by kernel_rfl) aDue_vc)
end Go.Proofs.YtjabmipkllkfbaaGreatDoor.Vc
