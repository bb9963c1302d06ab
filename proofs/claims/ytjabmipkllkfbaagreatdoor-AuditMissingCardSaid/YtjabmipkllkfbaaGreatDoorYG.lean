/-
  Audit, plain: launches that come too early by the running time of a limit are those that some earlier launch forbids. No program in sight; Audit, plain: which events are allowed, as the program asks it and as the document says it; what a trace is. No program in sight; Audit, plain: which configurations are allowed, as the program asks it and as the document says it. No program in sight; The laid variables; The laid variable mix.steps; What lies in the memory that nobody writes; Events, flaws, truth values in the memory that nobody writes.
-/
import Derived.Test.YtjabmipkllkfbaaGreatDoorYF
import Derived.Test.YtjabmipkllkfbaaGreatDoorYT
set_option linter.unusedVariables false
set_option linter.unusedSimpArgs false
namespace Go.Proofs.YtjabmipkllkfbaaGreatDoor
namespace As
structure Ev where
 kind : Int
 at_ : Int
 job : Int
 due : Int
 attempt : Int
 run : Int
 why : Int
 when_ : Int
 deriving DecidableEq
def isEnd (x : Ev) : Bool := x.kind == 2 || x.kind == 3
def undS (u : List Ev) (x : Ev) : List Ev := if x.kind = 1 then u ++ [x] else if isEnd x then u.filter fun y => decide (y.run ≠ x.run) else u
def und (l : List Ev) : List Ev := l.foldl undS []
theorem und_snoc (l : List Ev) (x : Ev) : und (l ++ [x]) = undS (und l) x := by unfold und; rw [List.foldl_append]; rfl
def lastR (l : List Ev) : Int := l.foldl (fun r x => if x.kind = 1 then x.run else r) 0
theorem last_snoc (l : List Ev) (x : Ev) : lastR (l ++ [x]) = if x.kind = 1 then x.run else lastR l := by unfold lastR; rw [List.foldl_append]; rfl
def Poss (p : List Ev) (x : Ev) : Prop := (x.kind = 1 → x.run = lastR p + 1) ∧ (isEnd x = true → ∃ u ∈ und p, u.run = x.run ∧ u.job = x.job ∧ u.due = x.due ∧ u.attempt = x.attempt)
inductive Trace : List Ev → Prop
 | nil : Trace []
 | snoc {l : List Ev} {x : Ev} : Trace l → Poss l x → Trace (l ++ [x])
theorem trace_inv {l : List Ev} (h : Trace l) : 0 ≤ lastR l ∧ (und l).Pairwise (fun a b => a.run < b.run) ∧ ∀ u ∈ und l, 1 ≤ u.run ∧ u.run ≤ lastR l := by
 induction h with
 | nil => exact ⟨Int.le_refl _, List.Pairwise.nil, fun u hu => by cases hu⟩
 | @snoc l x _ hp ih =>
  obtain ⟨h0, h1, h2⟩ := ih
  rw [und_snoc, last_snoc]
  unfold undS
  by_cases hk : x.kind = 1
  ·rw [if_pos hk, if_pos hk]
   have hr := hp.1 hk
   refine ⟨by omega, ?_, ?_⟩
   ·rw [List.pairwise_append]
    refine ⟨h1, List.pairwise_singleton _ _, fun a ha b hb => ?_⟩
    rw [List.mem_singleton] at hb
    subst hb
    have := h2 a ha
    omega
   ·intro u hu
    rw [List.mem_append, List.mem_singleton] at hu
    rcases hu with hu | rfl
    ·have := h2 u hu; omega
    ·omega
  ·rw [if_neg hk, if_neg hk]
   split
   ·exact ⟨h0, h1.filter _, fun u hu => h2 u (List.mem_filter.1 hu).1⟩
   ·exact ⟨h0, h1, h2⟩
end As
end Go.Proofs.YtjabmipkllkfbaaGreatDoor
namespace Go.Proofs.YtjabmipkllkfbaaGreatDoor
namespace As
def timeB (t : Int) : Bool := decide (0 ≤ t) && decide (t ≤ 253402300799)
def inU (used : Bool) (n lo hi : Int) : Bool := if used then decide (lo ≤ n) && decide (n ≤ hi) else decide (n = 0)
def usesK (k : Int) : Bool × Bool × Bool × Bool × Bool × Int :=
 if k = 1 ∨ k = 2 ∨ k = 3 then (true, true, true, false, false, 0)
 else if k = 4 then (true, true, false, true, false, 0)
 else if k = 5 then (true, true, false, false, true, 6)
 else if k = 6 then (false, false, false, false, true, 16)
 else if k = 7 then (true, false, false, true, false, 0)
 else (true, false, false, false, false, 0)
def evP (x : Ev) : Int :=
 if x.kind < 1 ∨ 9 ≤ x.kind then 2
 else
  let u := usesK x.kind
  if ¬ timeB x.at_ = true ∨ (u.2.1 = true ∧ ¬ timeB x.due = true) then 14
  else if (inU u.1 x.job 0 63 && inU u.2.1 x.due 0 x.at_ && inU u.2.1 x.attempt (if x.kind = 4 then 2 else 1) 21 && inU u.2.2.1 x.run 1 9223372036854775807 && inU u.2.2.2.1 x.when_ (x.at_ + 1) 4611686018427387904 && inU u.2.2.2.2.1 x.why 1 u.2.2.2.2.2) = true then 0
  else 2
end As
end Go.Proofs.YtjabmipkllkfbaaGreatDoor
namespace Go.Proofs.YtjabmipkllkfbaaGreatDoor
namespace As
def inB (n lo hi : Int) : Bool := decide (lo ≤ n) && decide (n ≤ hi)
abbrev spanM : Int := 68719476736
structure Lim where
 t : Int
 tau : Int
 deriving DecidableEq
structure Brk where
 fails : Int
 open_ : Int
 probes : Int
 deriving DecidableEq
structure Ret where
 max_ : Int
 base : Int
 cap : Int
 jit : Int
 deriving DecidableEq
structure Pol where
 cap : Int
 prio : Int
 splay : Int
 dead : Int
 mis : Int
 keep : Int
 lim : Lim
 brk : Brk
 ret : Ret
 deriving DecidableEq
def ruleE (l : List Bool) : Int := if l.contains false then 16 else 0
def firstE : List Int → Int → Int
 | [], o => o
 | e :: l, o => if e = 10 then 10 else if e ≠ 0 then firstE l 16 else firstE l o
def limP (l : Lim) : Int := ruleE [inB l.t 0 spanM, inB l.tau 0 spanM, decide (0 < l.t) || decide (l.tau = 0)]
def brkP (b : Brk) : Int := if b = ⟨0, 0, 0⟩ then 0 else ruleE [inB b.fails 1 100, inB b.open_ 1 spanM, inB b.probes 1 100]
def retP_ (x : Ret) : Int := if x = ⟨0, 0, 0, 0⟩ then 0 else ruleE [inB x.max_ 1 20, inB x.base 1 spanM, inB x.cap x.base spanM, inB x.jit 0 spanM]
def misP (k n : Int) : Int := if k = 3 then ruleE [inB n 1 100] else ruleE [inB k 0 2, decide (n = 0)]
def polP (p : Pol) : Int := firstE [ruleE [inB p.cap 1 1000, inB p.prio 0 100, inB p.splay 0 spanM, inB p.dead 0 spanM], misP p.mis p.keep, limP p.lim, brkP p.brk, retP_ p.ret] 0
theorem rule_zero (l : List Bool) : ruleE l = 0 ↔ ∀ b ∈ l, b = true := by
 unfold ruleE
 constructor
 ·intro h b hb
  cases b with
  | true => rfl
  | false => rw [if_pos (List.contains_iff_mem.2 hb)] at h; cases h
 ·intro h
  rw [if_neg]
  intro hc
  have := h false (List.contains_iff_mem.1 hc)
  cases this
theorem rule_two (l : List Bool) : ruleE l = 0 ∨ ruleE l = 16 := by unfold ruleE; split <;> simp
theorem first_two : ∀ (l : List Int) (o : Int), (∀ e ∈ l, e = 0 ∨ e = 16) → (o = 0 ∨ o = 16) → firstE l o = if o = 0 ∧ ∀ e ∈ l, e = 0 then 0 else 16 := by
 intro l
 induction l with
 | nil => intro o _ h; rcases h with rfl | rfl <;> simp [firstE]
 | cons e l ih =>
  intro o h ho
  have he := h e (by simp)
  have hl := fun x hx => h x (List.mem_cons_of_mem _ hx)
  rw [firstE]
  rcases he with rfl | rfl
  ·rw [if_neg (by decide), if_neg (by simp), ih o hl ho]
   simp
  ·rw [if_neg (by decide), if_pos (by decide), ih 16 hl (.inr rfl)]
   simp
end As
end Go.Proofs.YtjabmipkllkfbaaGreatDoor
namespace Go.Proofs.YtjabmipkllkfbaaGreatDoor.Vc
def zer : Nat → List UInt8
 | 0 => []
 | n + 1 => 0 :: zer n
def spTab : List UInt8 := zer 9 ++ ([1, 1, 1, 1, 1] ++ (zer 18 ++ (1 :: zer 223)))
def glSp : List (Nat × List AV) := [(1, bytesA spTab)]
end Go.Proofs.YtjabmipkllkfbaaGreatDoor.Vc
namespace Go.Proofs.YtjabmipkllkfbaaGreatDoor.Vc
def mixA : List AV := [.int .i64 (.lit 30), .int .u64 (.lit 13787848793156543929), .int .i64 (.lit 27), .int .u64 (.lit 10723151780598845931), .int .i64 (.lit 31), .int .u64 (.lit 1)]
def glMx : List (Nat × List AV) := [(0, mixA)]
end Go.Proofs.YtjabmipkllkfbaaGreatDoor.Vc
namespace Go.Proofs.YtjabmipkllkfbaaGreatDoor.Vc
theorem cellI_inv {m : Mem} {p : Option Addr} {z : Int} {v : Value} (h : cellI m p z = some v) : ∃ q o, p = some q ∧ z = Int.ofNat o ∧ memCell m (q.add o) = some v ∧ oneV v = some v := by
 unfold cellI at h
 split at h
 ·rename_i q o
  split at h
  ·rename_i u hu
   have := (oneV_some h).1; subst this
   exact ⟨q, o, rfl, rfl, hu, h⟩
  ·cases h
 ·cases h
theorem cellI_mk {m : Mem} {q : Addr} {o : Nat} {v : Value} (h : memCell m (q.add o) = some v) (k : oneV v = some v) : cellI m (some q) (Int.ofNat o) = some v := by
 unfold cellI; simp only [h, k]
theorem cellI_sub {m m' : Mem} (h : MemSub m m') {p : Option Addr} {z : Int} {v : Value} (k : cellI m p z = some v) : cellI m' p z = some v := by
 obtain ⟨q, o, rfl, rfl, h1, h2⟩ := cellI_inv k
 exact cellI_mk (memCell_up h h1) h2
theorem hasI_of {m : Mem} {p : Option Addr} {z : Int} {n : Nat} (hn : 0 < n) (k : ∀ j : Nat, j < n → ∃ v, cellI m p (z + j) = some v) : p ≠ none ∧ HasI m p z n := by
 obtain ⟨v0, h0⟩ := k 0 hn
 obtain ⟨q, o, rfl, ho, h1, h2⟩ := cellI_inv h0
 refine ⟨by simp, q, o, rfl, by simpa using ho, fun j hj => ?_⟩
 obtain ⟨v, hv⟩ := k j hj
 obtain ⟨q', o', hq, ho', k1, k2⟩ := cellI_inv hv
 cases hq
 refine ⟨v, ?_, k2⟩
 rw [add_add]
 have : o + j = o' := by simp at ho ho'; omega
 rw [this]; exact k1
theorem memSub_refl (m : Mem) : MemSub m m := fun _ _ h => h
theorem MemSub.trans {a b c : Mem} (h : MemSub a b) (k : MemSub b c) : MemSub a c := fun x o e => k x o (h x o e)
def IntAt (m : Mem) (p : Option Addr) (z : Int) (x : Int) : Prop := cellI m p z = some (.int .i64 x) ∧ IntKind.i64.min ≤ x ∧ x ≤ IntKind.i64.max
theorem IntAt.sub {m m' : Mem} (h : MemSub m m') {p : Option Addr} {z x : Int} (k : IntAt m p z x) : IntAt m' p z x := ⟨cellI_sub h k.1, k.2⟩
theorem IntAt.uniq {m m' : Mem} (h : MemSub m m') {p : Option Addr} {z x y : Int} (k : IntAt m p z x) (k' : IntAt m' p z y) : x = y := by
 have := cellI_sub h k.1
 rw [k'.1] at this; cases this; rfl
def SpansAt (m : Mem) (p : Option Addr) (n : Nat) (S : List (Int × Int)) : Prop := S.length = n ∧ ∀ (i : Nat) (a b : Int), S[i]? = some (a, b) → IntAt m p ((i : Int) * 2) a ∧ IntAt m p ((i : Int) * 2 + 1) b
theorem SpansAt.sub {m m' : Mem} (h : MemSub m m') {p : Option Addr} {n : Nat} {S : List (Int × Int)} (k : SpansAt m p n S) : SpansAt m' p n S :=
 ⟨k.1, fun i a b e => ⟨(k.2 i a b e).1.sub h, (k.2 i a b e).2.sub h⟩⟩
theorem SpansAt.uniq {m m' : Mem} (h : MemSub m m') {p : Option Addr} {n : Nat} {S T : List (Int × Int)} (k : SpansAt m p n S) (k' : SpansAt m' p n T) : S = T := by
 apply List.ext_getElem?
 intro i
 by_cases hi : i < n
 ·have h1 : S[i]? = some (S[i]'(by rw [k.1]; exact hi)) := List.getElem?_eq_getElem _
  have h2 : T[i]? = some (T[i]'(by rw [k'.1]; exact hi)) := List.getElem?_eq_getElem _
  rw [h1, h2]
  have a1 := k.2 i _ _ (h1.trans (by rfl)); have a2 := k'.2 i _ _ (h2.trans (by rfl))
  have e1 := a1.1.uniq h a2.1; have e2 := a1.2.uniq h a2.2
  congr 1
  exact Prod.ext e1 e2
 ·rw [List.getElem?_eq_none (by rw [k.1]; omega), List.getElem?_eq_none (by rw [k'.1]; omega)]
theorem SpansAt.at_ {m : Mem} {p : Option Addr} {n : Nat} {S : List (Int × Int)} (k : SpansAt m p n S) {i : Int} (h0 : 0 ≤ i) (h1 : i < (n : Int)) :
  ∃ a b, S[i.toNat]? = some (a, b) ∧ p ≠ none ∧ IntAt m p (0 + i * 2) a ∧ IntAt m p (0 + i * 2 + 1) b ∧ HasI m p (0 + i * 2) 2 ∧ HasI m p (0 + i * 2) 1 ∧ HasI m p (0 + i * 2 + 1) 1 := by
 have hi : i.toNat < S.length := by rw [k.1]; omega
 have e : S[i.toNat]? = some (S[i.toNat]'hi) := List.getElem?_eq_getElem _
 obtain ⟨c1, c2⟩ := k.2 i.toNat _ _ (e.trans (by rfl))
 have hz : ((i.toNat : Nat) : Int) * 2 = 0 + i * 2 := by omega
 rw [hz] at c1 c2
 have g1 : ∀ j : Nat, j < 1 → ∃ v, cellI m p (0 + i * 2 + j) = some v := fun j hj => by
  obtain rfl : j = 0 := by omega
  exact ⟨_, by simpa using c1.1⟩
 have g2 : ∀ j : Nat, j < 1 → ∃ v, cellI m p (0 + i * 2 + 1 + j) = some v := fun j hj => by
  obtain rfl : j = 0 := by omega
  exact ⟨_, by simpa using c2.1⟩
 have g3 : ∀ j : Nat, j < 2 → ∃ v, cellI m p (0 + i * 2 + j) = some v := fun j hj => by
  rcases (by omega : j = 0 ∨ j = 1) with rfl | rfl
  ·exact ⟨_, by simpa using c1.1⟩
  ·exact ⟨_, by simpa using c2.1⟩
 exact ⟨_, _, e.trans (by rfl), (hasI_of (by omega) g1).1, c1, c2, (hasI_of (by omega) g3).2, (hasI_of (by omega) g1).2, (hasI_of (by omega) g2).2⟩
end Go.Proofs.YtjabmipkllkfbaaGreatDoor.Vc
namespace Go.Proofs.YtjabmipkllkfbaaGreatDoor.Vc
open As
theorem IntAt.has {m : Mem} {p : Option Addr} {z x : Int} (h : IntAt m p z x) : HasI m p z 1 :=
 (hasI_of (by omega) fun j hj => by (obtain rfl : j = 0 := (by omega)); exact ⟨_, by simpa using h.1⟩).2
theorem IntAt.ne {m : Mem} {p : Option Addr} {z x : Int} (h : IntAt m p z x) : p ≠ none := by
 obtain ⟨q, o, rfl, _⟩ := cellI_inv h.1
 simp
def EvAt (m : Mem) (p : Option Addr) (z : Int) (x : Ev) : Prop :=
 IntAt m p z x.kind ∧ IntAt m p (z + 1) x.at_ ∧ IntAt m p (z + 2) x.job ∧ IntAt m p (z + 3) x.due ∧ IntAt m p (z + 4) x.attempt ∧ IntAt m p (z + 5) x.run ∧ IntAt m p (z + 6) x.why ∧ IntAt m p (z + 7) x.when_
theorem EvAt.sub {m m' : Mem} (h : MemSub m m') {p : Option Addr} {z : Int} {x : Ev} (k : EvAt m p z x) : EvAt m' p z x :=
 ⟨k.1.sub h, k.2.1.sub h, k.2.2.1.sub h, k.2.2.2.1.sub h, k.2.2.2.2.1.sub h, k.2.2.2.2.2.1.sub h, k.2.2.2.2.2.2.1.sub h, k.2.2.2.2.2.2.2.sub h⟩
theorem EvAt.uniq {m m' : Mem} (h : MemSub m m') {p : Option Addr} {z : Int} {x y : Ev} (k : EvAt m p z x) (k' : EvAt m' p z y) : x = y := by
 obtain ⟨a1, a2, a3, a4, a5, a6, a7, a8⟩ := k
 obtain ⟨b1, b2, b3, b4, b5, b6, b7, b8⟩ := k'
 obtain ⟨x1, x2, x3, x4, x5, x6, x7, x8⟩ := x
 obtain ⟨y1, y2, y3, y4, y5, y6, y7, y8⟩ := y
 have e1 := a1.uniq h b1; have e2 := a2.uniq h b2; have e3 := a3.uniq h b3; have e4 := a4.uniq h b4
 have e5 := a5.uniq h b5; have e6 := a6.uniq h b6; have e7 := a7.uniq h b7; have e8 := a8.uniq h b8
 simp only at e1 e2 e3 e4 e5 e6 e7 e8
 subst e1; subst e2; subst e3; subst e4; subst e5; subst e6; subst e7; subst e8
 rfl
theorem EvAt.has {m : Mem} {p : Option Addr} {z : Int} {x : Ev} (k : EvAt m p z x) : HasI m p z 8 := by
 obtain ⟨a1, a2, a3, a4, a5, a6, a7, a8⟩ := k
 refine (hasI_of (by omega) fun j hj => ?_).2
 rcases (by omega : j = 0 ∨ j = 1 ∨ j = 2 ∨ j = 3 ∨ j = 4 ∨ j = 5 ∨ j = 6 ∨ j = 7) with rfl | rfl | rfl | rfl | rfl | rfl | rfl | rfl
 ·exact ⟨_, by simpa using a1.1⟩
 ·exact ⟨_, a2.1⟩
 ·exact ⟨_, a3.1⟩
 ·exact ⟨_, a4.1⟩
 ·exact ⟨_, a5.1⟩
 ·exact ⟨_, a6.1⟩
 ·exact ⟨_, a7.1⟩
 ·exact ⟨_, a8.1⟩
def EvsAt (m : Mem) (p : Option Addr) (n : Nat) (l : List Ev) : Prop := l.length = n ∧ ∀ (i : Nat) (x : Ev), l[i]? = some x → EvAt m p ((i : Int) * 8) x
theorem EvsAt.sub {m m' : Mem} (h : MemSub m m') {p : Option Addr} {n : Nat} {l : List Ev} (k : EvsAt m p n l) : EvsAt m' p n l := ⟨k.1, fun i x e => (k.2 i x e).sub h⟩
theorem EvsAt.uniq {m m' : Mem} (h : MemSub m m') {p : Option Addr} {n : Nat} {S T : List Ev} (k : EvsAt m p n S) (k' : EvsAt m' p n T) : S = T := by
 apply List.ext_getElem?
 intro i
 by_cases hi : i < n
 ·have h1 : S[i]? = some (S[i]'(by rw [k.1]; exact hi)) := List.getElem?_eq_getElem _
  have h2 : T[i]? = some (T[i]'(by rw [k'.1]; exact hi)) := List.getElem?_eq_getElem _
  rw [h1, h2]
  congr 1
  exact (k.2 i _ h1).uniq h (k'.2 i _ h2)
 ·rw [List.getElem?_eq_none (by rw [k.1]; omega), List.getElem?_eq_none (by rw [k'.1]; omega)]
theorem EvsAt.at_ {m : Mem} {p : Option Addr} {n : Nat} {l : List Ev} (k : EvsAt m p n l) {i : Int} (h0 : 0 ≤ i) (h1 : i < (n : Int)) :
  ∃ x, l[i.toNat]? = some x ∧ p ≠ none ∧ EvAt m p (0 + i * 8) x ∧ HasI m p (0 + i * 8) 8 := by
 have hi : i.toNat < l.length := by rw [k.1]; omega
 have e : l[i.toNat]? = some (l[i.toNat]'hi) := List.getElem?_eq_getElem _
 have c := k.2 i.toNat _ e
 have hz : ((i.toNat : Nat) : Int) * 8 = 0 + i * 8 := by omega
 rw [hz] at c
 exact ⟨_, e, c.1.ne, c, c.has⟩
theorem rowAt_sub {m m' : Mem} (h : MemSub m m') {q : Option Addr} {l : List Value} (k : RowAt m q l) : RowAt m' q l := fun p hp j x hx => memCell_up h (k p hp j x hx)
theorem rowAt_cell {m : Mem} {q : Addr} {l : List Value} (k : RowAt m (some q) l) {j : Nat} {x : Value} (hx : l[j]? = some x) (h1 : oneV x = some x) : cellI m (some q) (j : Int) = some x :=
 cellI_mk (k q rfl j x hx) h1
def RowM (m : Mem) (q : Option Addr) (l : List Value) : Prop := RowAt m q l ∧ (q = none → l = [])
theorem RowM.sub {m m' : Mem} (h : MemSub m m') {q : Option Addr} {l : List Value} (k : RowM m q l) : RowM m' q l := ⟨rowAt_sub h k.1, k.2⟩
theorem RowM.int {m : Mem} {q : Option Addr} {l : List Value} (k : RowM m q l) {j : Nat} {x : Int} (hx : l[j]? = some (.int .i64 x)) (hr : IntKind.i64.min ≤ x ∧ x ≤ IntKind.i64.max) : IntAt m q (j : Int) x := by
 cases q with
 | none => rw [k.2 rfl] at hx; simp at hx
 | some q => exact ⟨rowAt_cell k.1 hx rfl, hr⟩
theorem RowM.bool {m : Mem} {q : Option Addr} {l : List Value} (k : RowM m q l) {j : Nat} {b : Bool} (hx : l[j]? = some (.bool b)) : q ≠ none ∧ cellI m q (j : Int) = some (.bool b) ∧ HasI m q (j : Int) 1 := by
 cases q with
 | none => rw [k.2 rfl] at hx; simp at hx
 | some q =>
  have hc := rowAt_cell k.1 hx rfl
  exact ⟨by simp, hc, (hasI_of (by omega) fun i hi => by (obtain rfl : i = 0 := (by omega)); exact ⟨_, by simpa using hc⟩).2⟩
def boolRow (B : List Bool) : List Value := B.map Value.bool
def flRow (k : Int) : List Nat → List Value
 | [] => []
 | i :: l => .int .i64 k :: .int .i64 (i : Int) :: flRow k l
theorem flRow_app (k : Int) : ∀ (l : List Nat) (i : Nat), flRow k (l ++ [i]) = flRow k l ++ [.int .i64 k, .int .i64 (i : Int)] := by
 intro l
 induction l with
 | nil => intro i; rfl
 | cons x l ih => intro i; simp [flRow, ih]
theorem flRow_len (k : Int) : ∀ (l : List Nat), (flRow k l).length = 2 * l.length := by
 intro l
 induction l with
 | nil => rfl
 | cons x l ih => simp only [flRow, List.length_cons, ih]; omega
def idxs : List Bool → Nat → List Nat
 | [], _ => []
 | b :: l, i => bif b then i :: idxs l (i + 1) else idxs l (i + 1)
theorem idxs_app : ∀ (l : List Bool) (i : Nat) (b : Bool), idxs (l ++ [b]) i = idxs l i ++ (bif b then [i + l.length] else []) := by
 intro l
 induction l with
 | nil => intro i b; cases b <;> simp [idxs]
 | cons x l ih =>
  intro i b
  cases x <;> cases b <;> simp [idxs, ih, Nat.add_assoc, Nat.add_comm 1]
theorem idxs_len : ∀ (l : List Bool) (i : Nat), (idxs l i).length ≤ l.length := by
 intro l
 induction l with
 | nil => intro i; simp [idxs]
 | cons x l ih => intro i; have := ih (i + 1); cases x <;> simp only [idxs, cond_true, cond_false, List.length_cons] <;> omega
end Go.Proofs.YtjabmipkllkfbaaGreatDoor.Vc
