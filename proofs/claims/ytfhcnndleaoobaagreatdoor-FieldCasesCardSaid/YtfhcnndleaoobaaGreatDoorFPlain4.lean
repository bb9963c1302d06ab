/-
  The plain law of names in either case, at a kind that is allowed. No program in sight.
-/
import Derived.Test.YtfhcnndleaoobaaGreatDoorFPlain3
set_option linter.unusedVariables false
set_option linter.unusedSimpArgs false
namespace Go.Proofs.YtfhcnndleaoobaaGreatDoor
namespace Fs

theorem valAt_name {k : Kind} {l : Bytes} {a i : Nat} {T t : Bytes} (hT : T.all letterB = true) (h0 : 0 < T.length) (h : l.drop a = T ++ t) (ht : ∀ c, t[0]? = some c → letterB c = false) (hi : idxOf k.names (T.map up) = some i) :
    valAt k l a = some (k.lo.toNat + i, a + T.length) := by
  have hle : T.length ≤ l.length := by
    have := congrArg List.length h
    rw [List.length_drop, List.length_append] at this; omega
  have hsp : span letterB l.length (l.drop a) = T.length := by
    rw [h]
    refine (span_iff0 ..).2 ⟨fun j hj => ?_, hle, .inr fun c hc => ?_⟩
    · rw [List.getElem?_append_left hj]
      exact ⟨T[j], List.getElem?_eq_getElem hj, List.all_eq_true.1 hT _ (List.getElem_mem hj)⟩
    · rw [List.getElem?_append_right (by omega), Nat.sub_self] at hc
      exact ht c hc
  rw [valAt_letters hsp h0, h, List.take_left' rfl, hi]
  rfl

theorem itemAt_pair {k : Kind} {T U : Bytes} {n m : Nat} (h1 : valAt k (T ++ 45 :: U) 0 = some (n, T.length)) (h2 : valAt k (T ++ 45 :: U) (T.length + 1) = some (m, (T ++ 45 :: U).length)) (hs : byteAt (T ++ 45 :: U) 0 42 = false) :
    itemAt k (T ++ 45 :: U) 0 = .ok ⟨false, 0, some (n, 0), some (m, T.length + 1), none⟩ (T ++ 45 :: U).length := by
  have e1 : byteAt (T ++ 45 :: U) T.length 45 = true := by
    unfold byteAt; rw [List.getElem?_append_right (Nat.le_refl _), Nat.sub_self]; rfl
  have e2 : byteAt (T ++ 45 :: U) (T ++ 45 :: U).length 47 = false := by
    unfold byteAt; rw [List.getElem?_eq_none (Nat.le_refl _)]; rfl
  unfold itemAt
  rw [hs, h1]
  simp only [Bool.false_eq_true, if_false]
  rw [e1]
  simp only [if_true]
  rw [h2]
  simp only
  unfold stepAt
  rw [e2]
  rfl

theorem itemAt_sole {k : Kind} {T : Bytes} {n : Nat} (h1 : valAt k T 0 = some (n, T.length)) (hs : byteAt T 0 42 = false) :
    itemAt k T 0 = .ok ⟨false, 0, some (n, 0), none, none⟩ T.length := by
  have e : ∀ q, byteAt T T.length q = false := by intro q; unfold byteAt; rw [List.getElem?_eq_none (Nat.le_refl _)]; rfl
  unfold itemAt
  rw [hs, h1]
  simp only [Bool.false_eq_true, if_false]
  rw [e]
  simp only [Bool.false_eq_true, if_false]
  unfold stepAt
  rw [e]
  rfl

theorem letters_star {T : Bytes} (hT : T.all letterB = true) (h0 : 0 < T.length) (t : Bytes) : byteAt (T ++ t) 0 42 = false := by
  unfold byteAt
  rw [List.getElem?_append_left h0, List.getElem?_eq_getElem h0]
  have := List.all_eq_true.1 hT _ (List.getElem_mem h0)
  cases hq : (some T[0] == some (42 : UInt8)) with
  | false => rfl
  | true => simp only [beq_iff_eq, Option.some.injEq] at hq; rw [hq] at this; cases this

/-- A pair of numbers, however written, has one set. -/
theorem pair_parse {k : Kind} (hk : checkB k = true) {lo hi : Nat} (hlo : k.lo = lo) (hhi : k.hi = hi) {T U : Bytes} {n m : Nat} (hn : lo ≤ n) (hnm : n ≤ m) (hm : m ≤ hi)
    (h1 : valAt k (T ++ 45 :: U) 0 = some (n, T.length)) (h2 : valAt k (T ++ 45 :: U) (T.length + 1) = some (m, (T ++ 45 :: U).length)) (hs : byteAt (T ++ 45 :: U) 0 42 = false) :
    parse k (T ++ 45 :: U) = (setFrom k.week m 1 (m + 1 - n) n 0, false, 0, 0) := by
  have kn : inB k n = true := (inB_nat hlo hhi n).2 (.inl ⟨hn, by omega⟩)
  have km : inB k m = true := (inB_nat hlo hhi m).2 (.inl ⟨by omega, hm⟩)
  have hmn : ¬ m < n := by omega
  have hne : (T ++ 45 :: U == [42]) = false := by
    rw [beq_eq_false_iff_ne]
    intro h
    rw [h] at hs
    cases hs
  rw [parse_item hk (itemAt_pair h1 h2 hs) hne]
  simp [wrongAt, kn, km, hmn, itemSet, itemLo, itemHi, itemStep]

/-- **Names**: in either case they stand for their numbers. -/
theorem cases_plain {k : Kind} (hk : checkB k = true) {lo hi : Nat} (hlo : k.lo = lo) (hhi : k.hi = hi) {n m : Nat} (hn : lo ≤ n) (hnm : n ≤ m) (hm : m ≤ hi) {T U : Bytes} (hT : T.all letterB = true) (hU : U.all letterB = true) (hT0 : 0 < T.length) (hU0 : 0 < U.length)
    (hnT : idxOf k.names (T.map up) = some (n - lo)) (hmU : idxOf k.names (U.map up) = some (m - lo)) :
    ∃ S, parse k (T ++ 45 :: U) = (S, false, 0, 0) ∧ parse k (dig n ++ 45 :: dig m) = (S, false, 0, 0) := by
  obtain ⟨lo', hi', hlo', hhi', hle, h62, hw⟩ := check_nat hk
  obtain rfl : lo' = lo := by omega
  obtain rfl : hi' = hi := by omega
  have en : k.lo.toNat + (n - lo') = n := by rw [hlo]; simp; omega
  have em : k.lo.toNat + (m - lo') = m := by rw [hlo]; simp; omega
  have hn1 : n < 100 := by omega
  have hm1 : m < 100 := by omega
  refine ⟨_, pair_parse hk hlo hhi hn hnm hm ?_ ?_ (letters_star hT hT0 _), pair_parse hk hlo hhi hn hnm hm ?_ ?_ ?_⟩
  · have := valAt_name (k := k) (l := T ++ 45 :: U) (a := 0) (T := T) (t := 45 :: U) hT hT0 rfl (by intro c hc; simp at hc; subst hc; rfl) hnT
    rw [this, en, Nat.zero_add]
  · have := valAt_name (k := k) (l := T ++ 45 :: U) (a := T.length + 1) (T := U) (t := []) hU hU0 (by rw [← List.drop_drop, List.drop_left]; simp) (by intro c hc; cases hc) hmU
    rw [this, em, List.length_append, List.length_cons]
    congr 2; omega
  · have := valAt_dig (k := k) (l := dig n ++ 45 :: dig m) (a := 0) hn1 (45 :: dig m) rfl (by intro c hc; simp at hc; subst hc; rfl)
    rw [this, Nat.zero_add]
  · have := valAt_dig (k := k) (l := dig n ++ 45 :: dig m) (a := (dig n).length + 1) hm1 [] (by rw [← List.drop_drop, List.drop_left]; simp) (by intro c hc; cases hc)
    rw [this, List.length_append, List.length_cons]
    congr 2; omega
  · have := dig_noStar hn1 (45 :: dig m)
    exact this

theorem name_plain {k : Kind} (hk : checkB k = true) {lo hi : Nat} (hlo : k.lo = lo) (hhi : k.hi = hi) {n : Nat} (hn : lo ≤ n) (hm : n ≤ hi) {T : Bytes} (hT : T.all letterB = true) (hT0 : 0 < T.length)
    (hnT : idxOf k.names (T.map up) = some (n - lo)) : parse k T = (2 ^ n, false, 0, 0) := by
  obtain ⟨lo', hi', hlo', hhi', hle, h62, hw⟩ := check_nat hk
  obtain rfl : lo' = lo := by omega
  obtain rfl : hi' = hi := by omega
  have en : k.lo.toNat + (n - lo') = n := by rw [hlo]; simp; omega
  have hv : valAt k T 0 = some (n, T.length) := by
    have := valAt_name (k := k) (l := T) (a := 0) (T := T) (t := []) hT hT0 (by simp) (by intro c hc; cases hc) hnT
    rw [this, en, Nat.zero_add]
  have kn : inB k n = true := (inB_nat hlo hhi n).2 (.inl ⟨hn, hm⟩)
  have hs : byteAt T 0 42 = false := by have := letters_star hT hT0 []; rwa [List.append_nil] at this
  have hne : (T == [42]) = false := by
    rw [beq_eq_false_iff_ne]
    intro h
    rw [h] at hs
    cases hs
  have hwk : (if k.week = true then n % 7 else n) = n := by
    split
    · rename_i h; have := hw h; exact Nat.mod_eq_of_lt (by omega)
    · rfl
  rw [parse_item hk (itemAt_sole hv hs) hne]
  simp [wrongAt, kn, itemSet, itemLo, itemHi, itemStep, setFrom, hwk]
end Fs
end Go.Proofs.YtfhcnndleaoobaaGreatDoor
