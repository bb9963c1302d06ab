/-
  Contracts, by their trees.
-/
import Derived.Test.YtphcgfljfknbaaaGreatDoorWK
import Derived.Test.YtphcgfljfknbaaaGreatDoorWQ
set_option linter.unusedVariables false
set_option linter.unusedSimpArgs false
set_option linter.unusedVariables false
set_option linter.unusedSimpArgs false
namespace Go.Proofs.YtphcgfljfknbaaaGreatDoor.Vc
theorem FwAt.sub {m m' : Mem} (h : MemSub m m') {p : Option Addr} {n : Nat} {L : List Fw} (k : FwAt m p n L) : FwAt m' p n L := ⟨k.1, k.2.1.sub h, k.2.2⟩
theorem madd0 (p : Option Addr) : (p.map fun p => p.add 0) = p := by cases p <;> simp [Addr.add]
def K.u16 (z : Int) : Prop := IntKind.u16.min ≤ z ∧ z ≤ IntKind.u16.max
def many (n : Nat) : List Value := fwRow (List.replicate n (7, 123456))
def fwOf (x : Int) : Fw := (1 + x % 8, x / 8)
def u16In (x : Int) : Prop := 0 ≤ x ∧ x ≤ 65535
def U16At (m : Mem) (p : Option Addr) (n : Nat) (l : List Int) : Prop := l.length = n ∧ ∀ (i : Nat) (x : Int), l[i]? = some x → cellI m p (i : Int) = some (.int .u16 x) ∧ u16In x
theorem fw_in {x : Int} (h : u16In x) : fwIn (fwOf x) := by
  obtain ⟨h0, h1⟩ := h
  unfold fwIn fwOf K.i64
  rw [IntKind.max_i64, show IntKind.i64.min = -9223372036854775808 from rfl]
  simp only
  omega
theorem fw_good {x : Int} (h : u16In x) : fbad (fwOf x) = false := by
  obtain ⟨h0, h1⟩ := h
  unfold fbad fwOf
  simp only [Bool.or_eq_false_iff, decide_eq_false_iff_not]
  omega
theorem fline_len {x : Int} (h : u16In x) : (fline (fwOf x)).length ≤ 13 := by
  obtain ⟨h0, h1⟩ := h
  have h2 := Fl.word_len (1 + x % 8)
  have h3 := dec_len10 3 (x / 8).toNat (by omega)
  simp only [fline, fwOf, List.length_append, List.length_singleton]
  omega
theorem ftext_app (L L' : List Fw) : ftext (L ++ L') = ftext L ++ ftext L' := by simp [ftext]
theorem ftext_one (x : Fw) : ftext [x] = fline x := by simp [ftext]
theorem ftext_len : ∀ (l : List Int), (∀ x ∈ l, u16In x) → (ftext (l.map fwOf)).length ≤ 13 * l.length := by
  intro l
  induction l with
  | nil => intro _; simp [ftext]
  | cons x l ih =>
    intro h
    have h1 := fline_len (h x (List.mem_cons_self ..))
    have h2 := ih (fun y hy => h y (List.mem_cons_of_mem _ hy))
    have e : ftext ((x :: l).map fwOf) = fline (fwOf x) ++ ftext (l.map fwOf) := by simp [ftext]
    rw [e]
    simp only [List.length_append, List.length_cons]
    omega
theorem tx_good {L : List Fw} (h : ∀ x ∈ L, fbad x = false) (hl : (ftext L).length ≤ 65536) : txAns L = (ftext L, 0) := by
  unfold txAns
  have : L.any fbad = false := List.any_eq_false.2 (fun x hx => by simp [h x hx])
  rw [this, if_neg (by simp), if_neg (by omega)]
theorem tx_long {L : List Fw} (h : ∀ x ∈ L, fbad x = false) (hl : 65536 < (ftext L).length) : txAns L = ([], 11) := by
  unfold txAns
  have : L.any fbad = false := List.any_eq_false.2 (fun x hx => by simp [h x hx])
  rw [this, if_neg (by simp), if_pos (by omega)]
theorem tx_bad {L : List Fw} {x : Fw} (hx : x ∈ L) (h : fbad x = true) : txAns L = ([], 2) := by
  unfold txAns
  rw [if_pos (List.any_eq_true.2 ⟨x, hx, h⟩)]
theorem dec6 : Lib.decDigits 123456 = [49, 50, 51, 52, 53, 54] := by
  rw [dec_step _ (by decide), preD, if_neg (by decide), dec_step _ (by decide), preD, if_neg (by decide), dec_step _ (by decide), preD, if_neg (by decide), dec_step _ (by decide), preD, if_neg (by decide), dec_step _ (by decide), preD, if_neg (by decide), dec_step _ (by decide), preD, if_pos (by decide)]
  rfl
theorem fline15 : (fline (7, 123456)).length = 15 := by
  simp only [fline, List.length_append]
  rw [show (123456 : Int).toNat = 123456 from rfl, dec6]
  rfl
theorem many_len (n : Nat) : (ftext (List.replicate n (7, 123456))).length = 15 * n := by
  induction n with
  | zero => rfl
  | succ n ih =>
    rw [List.replicate_succ, show ftext ((7, 123456) :: List.replicate n (7, 123456)) = fline (7, 123456) ++ ftext (List.replicate n (7, 123456)) from by simp [ftext], List.length_append, ih, fline15]
    omega
theorem many_at {m : Mem} {p : Addr} {n : Nat} (h : RowAt m (some p) (many n)) : FwAt m (some p) n (List.replicate n (7, 123456)) :=
  ⟨by simp, ⟨h, fun h => by cases h⟩, fun x hx => by rw [List.eq_of_mem_replicate hx]; exact ⟨⟨by decide, by decide⟩, ⟨by decide, by decide⟩⟩⟩
theorem many_good {n : Nat} : ∀ x ∈ List.replicate n ((7, 123456) : Fw), fbad x = false := fun x hx => by rw [List.eq_of_mem_replicate hx]; decide
theorem lin_cat {W s1 s0 S : List UInt8} {R : List UInt8 → Prop} (hS : s0 ++ (W ++ s1 ++ [10]) = S) (hl : S.length ≤ 100000) (hR : R S) :
    ((((W.length + s1.length : Nat)) : Int) ≤ 9223372036854775807 ∧ ∀ s2 : List UInt8, s2 = W ++ s1 → ((((s2.length + ([10] : List UInt8).length : Nat)) : Int) ≤ 9223372036854775807 ∧ ∀ s3 : List UInt8, s3 = s2 ++ ([10] : List UInt8) → ((((s0.length + s3.length : Nat)) : Int) ≤ 9223372036854775807 ∧ ∀ s4 : List UInt8, s4 = s0 ++ s3 → R s4))) := by
  subst hS
  simp only [List.length_append] at hl
  refine ⟨by omega, fun s2 h2 => ?_⟩
  subst h2
  refine ⟨by simp only [List.length_append]; omega, fun s3 h3 => ?_⟩
  subst h3
  refine ⟨by simp only [List.length_append]; omega, fun s4 h4 => ?_⟩
  subst h4
  exact hR
def lLin_pre (p0 : Option Addr) (n0 c0 : Nat) (x2 : Int) (m : Mem) : Prop := TM m ∧ Globs m glSp ∧ Globs m glMx ∧ n0 ≤ c0 ∧ ∃ l, U16At m p0 n0 l
def lLin_post (p0 : Option Addr) (n0 c0 : Nat) (x2 : Int) (m : Mem) (b : Bool) : Prop := b = true
def oneP (p0 : Option Addr) (n0 c0 : Nat) (x2 : Int) (m3 : Mem) (p1 : Option Addr) (n1 : Nat) (f1 f2 : Int) (Q : Prop) : Prop :=
 (∀ b2 : Bool, b2 = decide (p1 = none) → ((b2 = true →
 (∀ (p2 : Addr) (c2 : Nat) (m5 : Mem), MemSub m3 m5 → RowAt m5 (some p2) [(Value.int IntKind.i64 f1), (Value.int IntKind.i64 f2)] → c2 ≤ 9223372036854775807 → ((1 ≤ 9223372036854775807 ∧ c2 ≤ 9223372036854775807) ∧ aTxt_pre ((some p2).map fun p => p.add 0) 1 c2 m5 ∧ ∀ m6 : Mem, MemSub m5 m6 → ∀ s2 : List UInt8, ∀ x11 : Int, IntKind.i64.min ≤ x11 → x11 ≤ IntKind.i64.max → aTxt_post ((some p2).map fun p => p.add 0) 1 c2 m6 s2 x11 →
 (∀ b3 : Bool, b3 = decide (s2 = ([] : List UInt8)) → ((b3 = false →
 (lLin_post p0 n0 c0 x2 m6 false)) ∧
 (b3 = true →
 ((x11 ≠ (2 : Int) →
 (lLin_post p0 n0 c0 x2 m6 false)) ∧
 (x11 = (2 : Int) →
 Q)))))))) ∧
 (b2 = false →
 ((1 : Int) ≤ (n1 : Int) ∧ (∃ r1 : List Value, ((r1.length : Nat) : Int) = (0 : Int) * (2 : Int) ∧ (∀ (j : Nat) (v : Value), r1[j]? = some v → cellI m3 p1 ((0 : Int) + (j : Int)) = some v) ∧ (∃ r2 : List Value, ((r2.length : Nat) : Int) = (n1 : Int) * (2 : Int) ∧ (∀ (j : Nat) (v : Value), r2[j]? = some v → cellI m3 p1 ((0 : Int) + (j : Int)) = some v) ∧ ((2 * (n1 : Int) * (16 : Int) ≤ 281474976710656) ∧ ∀ (p2 : Option Addr) (c2 : Nat) (r3 : List Value), r3 = r1 ++ r2 → (n1 : Int) ≤ (c2 : Int) → c2 ≤ 9223372036854775807 → (p2 = none → (n1 : Int) = 0) → ((2 * ((n1 : Int) + 1) * 16 ≤ 281474976710656) ∧ ∀ (p3 : Addr) (c3 : Nat) (r4 : List Value), r4 = r3 ++ [(Value.int IntKind.i64 f1), (Value.int IntKind.i64 f2)] → (n1 : Int) + 1 ≤ (c3 : Int) → c3 ≤ 9223372036854775807 → (∀ m5 : Mem, MemSub m3 m5 → RowAt m5 (some p3) r4 → (((Int.toNat ((n1 : Int) + (1 : Int))) ≤ 9223372036854775807 ∧ c3 ≤ 9223372036854775807) ∧ aTxt_pre ((some p3).map fun p => p.add 0) (Int.toNat ((n1 : Int) + (1 : Int))) c3 m5 ∧ ∀ m6 : Mem, MemSub m5 m6 → ∀ s2 : List UInt8, ∀ x12 : Int, IntKind.i64.min ≤ x12 → x12 ≤ IntKind.i64.max → aTxt_post ((some p3).map fun p => p.add 0) (Int.toNat ((n1 : Int) + (1 : Int))) c3 m6 s2 x12 →
 (∀ b3 : Bool, b3 = decide (s2 = ([] : List UInt8)) → ((b3 = false →
 (lLin_post p0 n0 c0 x2 m6 false)) ∧
 (b3 = true →
 ((x12 ≠ (2 : Int) →
 (lLin_post p0 n0 c0 x2 m6 false)) ∧
 (x12 = (2 : Int) →
 Q)))))))))))))))
set_option maxRecDepth 20000 in
theorem one_ok {p0 : Option Addr} {n0 c0 : Nat} {x2 : Int} {m3 : Mem} {p1 : Option Addr} {n1 : Nat} {f1 f2 : Int} {Q : Prop} {L : List Fw} (htm : TM m3) (hL : FwAt m3 p1 n1 L) (hn : n1 ≤ 100) (hp : p1 ≠ none → 1 ≤ n1) (hin : fwIn (f1, f2)) (hb : fbad (f1, f2) = true) (hQ : Q) : oneP p0 n0 c0 x2 m3 p1 n1 f1 f2 Q := by
  intro b2 hb2
  refine ⟨fun h => ?_, fun h => ?_⟩
  · intro p2 c2 m5 h5 hr5 hc2
    have hF : FwAt m5 (some p2) 1 [(f1, f2)] := ⟨rfl, ⟨hr5, fun h => by cases h⟩, by simpa using hin⟩
    rw [madd0]
    refine ⟨⟨by decide, hc2⟩, ⟨htm.sub h5, by decide, _, hF⟩, fun m6 h6 s2 x11 _ _ hp b3 hb3 => ?_⟩
    have hz := hp _ (hF.sub h6)
    rw [tx_bad (List.mem_singleton.2 rfl) hb] at hz
    obtain ⟨rfl, rfl⟩ := hz
    refine ⟨fun h => ?_, fun _ => ⟨fun h => absurd rfl h, fun _ => hQ⟩⟩
    rw [hb3] at h; simp at h
  · have hne : p1 ≠ none := fun e => by rw [hb2, e] at h; simp at h
    have h1 := hp hne
    obtain ⟨q, rfl⟩ := Option.ne_none_iff_exists'.1 hne
    refine ⟨by omega, [], by simp, fun j v hj => by simp at hj, fwRow L, ?_, fun j v hj => ?_, by omega, fun p2 c2 r3 hr3 hc hc' hz => ⟨by omega, fun p3 c3 r4 hr4 hc3 hc3' m5 h5 hr5 => ?_⟩⟩
    · rw [fwRow_len, hL.1]; omega
    · have hv : oneV v = some v := by
        have hm := List.mem_of_getElem? hj
        have : ∀ (l : List Fw), ∀ v ∈ fwRow l, oneV v = some v := by
          intro l
          induction l with
          | nil => intro v h; cases h
          | cons x l ih =>
            intro v h
            cases h with
            | head => rfl
            | tail _ h => cases h with
              | head => rfl
              | tail _ h => exact ih v h
        exact this L v hm
      have := rowAt_cell hL.2.1.1 hj hv
      rwa [show (0 : Int) + (j : Int) = (j : Int) by omega]
    · have e4 : r4 = fwRow (L ++ [(f1, f2)]) := by
        rw [hr4, hr3, fwRow_app]; rfl
      rw [e4] at hr5
      have e5 : ((n1 : Int) + 1).toNat = n1 + 1 := by omega
      rw [e5, madd0]
      have hF : FwAt m5 (some p3) (n1 + 1) (L ++ [(f1, f2)]) := ⟨by rw [List.length_append, hL.1]; rfl, ⟨hr5, fun h => by cases h⟩, fun x hx => by
        rcases List.mem_append.1 hx with h | h
        · exact hL.2.2 x h
        · rw [List.mem_singleton.1 h]; exact hin⟩
      refine ⟨⟨by omega, by omega⟩, ⟨htm.sub h5, by omega, _, hF⟩, fun m6 h6 s2 x11 _ _ hp b3 hb3 => ?_⟩
      have hz := hp _ (hF.sub h6)
      rw [tx_bad (List.mem_append.2 (.inr (List.mem_singleton.2 rfl))) hb] at hz
      obtain ⟨rfl, rfl⟩ := hz
      refine ⟨fun h => ?_, fun _ => ⟨fun h => absurd rfl h, fun _ => hQ⟩⟩
      rw [hb3] at h; simp at h
def linF (l : List Int) (n4 : Nat) (p : Option Addr) (n c : Nat) (s : List UInt8) (x : Int) (r : List Value) : Prop :=
  ∃ i : Nat, x = (i : Int) ∧ i ≤ n4 ∧ n = i ∧ r = fwRow ((l.take i).map fwOf) ∧ s = ftext ((l.take i).map fwOf) ∧ (p = none → i = 0) ∧ (p ≠ none → 0 < i)
def lLin : Sp := { args := [.sl, .i .u8], grp := [none, none], res := [.b], rgrp := [none], fn := 3, spec := fun a0 a1 a2 a3 => (lLin_pre a0 a1 a2 a3, lLin_post a0 a1 a2 a3) }
set_option maxRecDepth 20000 in
def lLin_VC : Prop := ∀ m : Mem, ∀ (p0 : Option Addr) (n0 c0 : Nat), n0 ≤ 9223372036854775807 → c0 ≤ 9223372036854775807 → ∀ x2 : Int, IntKind.u8.min ≤ x2 → x2 ≤ IntKind.u8.max → lLin_pre p0 n0 c0 x2 m →
 (∀ x3 : Int, x3 = (bif false then max (n0 : Int) 100 else min (n0 : Int) 100) → (K.i64 x3) ∧ (0 ≤ x3 ∧ (x3 ≤ (c0 : Int) ∧ (∃ n4_ : Nat, (n4_ : Int) = x3 ∧ n4_ ≤ 9223372036854775807 ∧ (∃ F1 : Option Addr → Nat → Nat → List UInt8 → Int → List Value → Prop × Nat, ((K.i64 0) ∧ (F1 none 0 0 ([] : List UInt8) 0 []).1) ∧
 ∀ (p1 : Option Addr) (n1 c1 : Nat), n1 ≤ 9223372036854775807 → c1 ≤ 9223372036854775807 → ∀ s0 : List UInt8, ∀ x7 : Int, IntKind.i64.min ≤ x7 → x7 ≤ IntKind.i64.max → ∀ r0 : List Value, (F1 p1 n1 c1 s0 x7 r0).1 →
 ((x7 < (n4_ : Int) →
 (0 ≤ x7 ∧ (p0 ≠ none ∧ (HasI m p0 (0 + x7) 1 ∧ (∃ x8 : Int, cellI m p0 (0 + x7) = some (Value.int IntKind.u16 x8) ∧ (K.u16 x8) ∧ (arithP BinOp.rem 8 ∧ ∀ x9 : Int, x9 = arithV BinOp.rem IntKind.u16 x8 8 → (K.u16 x9) ∧ (arithP BinOp.quo 8 ∧ ∀ x10 : Int, x10 = arithV BinOp.quo IntKind.u16 x8 8 → (K.u16 x10) ∧ ((2 * ((n1 : Int) + 1) * 16 ≤ 281474976710656) ∧ ∀ (p2 : Addr) (c2 : Nat) (r1 : List Value), r1 = r0 ++ [(Value.int IntKind.i64 (1 + x9)), (Value.int IntKind.i64 x10)] → (n1 : Int) + 1 ≤ (c2 : Int) → c2 ≤ 9223372036854775807 → (arithP BinOp.rem 8 ∧ ∀ x12 : Int, x12 = arithV BinOp.rem IntKind.u16 x8 8 → (K.u16 x12) ∧ ((x12 = 0 →
 (dgt_pre x10 m ∧ ∀ m2 : Mem, MemSub m m2 → ∀ s1 : List UInt8, dgt_post x10 m2 s1 →
 ((((([102, 111, 114, 109, 32] : List UInt8).length + s1.length : Nat)) : Int) ≤ 9223372036854775807 ∧ ∀ s2 : List UInt8, s2 = ([102, 111, 114, 109, 32] : List UInt8) ++ s1 → ((((s2.length + ([10] : List UInt8).length : Nat)) : Int) ≤ 9223372036854775807 ∧ ∀ s3 : List UInt8, s3 = s2 ++ ([10] : List UInt8) → ((((s0.length + s3.length : Nat)) : Int) ≤ 9223372036854775807 ∧ ∀ s4 : List UInt8, s4 = s0 ++ s3 → ((x7 + 1) ≤ 9223372036854775807 ∧ (((Int.toNat ((n1 : Int) + 1)) ≤ 9223372036854775807 ∧ c2 ≤ 9223372036854775807) ∧ (IntKind.i64.min ≤ (x7 + 1) ∧ (x7 + 1) ≤ IntKind.i64.max) ∧ ((F1 ((some p2).map fun p => p.add 0) (Int.toNat ((n1 : Int) + 1)) c2 s4 (x7 + 1) r1).1 ∧ (F1 ((some p2).map fun p => p.add 0) (Int.toNat ((n1 : Int) + 1)) c2 s4 (x7 + 1) r1).2 < (F1 p1 n1 c1 s0 x7 r0).2)))))))) ∧
 (x12 ≠ 0 →
 ((x12 = 1 →
 (dgt_pre x10 m ∧ ∀ m2 : Mem, MemSub m m2 → ∀ s1 : List UInt8, dgt_post x10 m2 s1 →
 ((((([99, 97, 112, 32] : List UInt8).length + s1.length : Nat)) : Int) ≤ 9223372036854775807 ∧ ∀ s2 : List UInt8, s2 = ([99, 97, 112, 32] : List UInt8) ++ s1 → ((((s2.length + ([10] : List UInt8).length : Nat)) : Int) ≤ 9223372036854775807 ∧ ∀ s3 : List UInt8, s3 = s2 ++ ([10] : List UInt8) → ((((s0.length + s3.length : Nat)) : Int) ≤ 9223372036854775807 ∧ ∀ s4 : List UInt8, s4 = s0 ++ s3 → ((x7 + 1) ≤ 9223372036854775807 ∧ (((Int.toNat ((n1 : Int) + 1)) ≤ 9223372036854775807 ∧ c2 ≤ 9223372036854775807) ∧ (IntKind.i64.min ≤ (x7 + 1) ∧ (x7 + 1) ≤ IntKind.i64.max) ∧ ((F1 ((some p2).map fun p => p.add 0) (Int.toNat ((n1 : Int) + 1)) c2 s4 (x7 + 1) r1).1 ∧ (F1 ((some p2).map fun p => p.add 0) (Int.toNat ((n1 : Int) + 1)) c2 s4 (x7 + 1) r1).2 < (F1 p1 n1 c1 s0 x7 r0).2)))))))) ∧
 (x12 ≠ 1 →
 ((x12 = 2 →
 (dgt_pre x10 m ∧ ∀ m2 : Mem, MemSub m m2 → ∀ s1 : List UInt8, dgt_post x10 m2 s1 →
 ((((([114, 97, 116, 101, 32] : List UInt8).length + s1.length : Nat)) : Int) ≤ 9223372036854775807 ∧ ∀ s2 : List UInt8, s2 = ([114, 97, 116, 101, 32] : List UInt8) ++ s1 → ((((s2.length + ([10] : List UInt8).length : Nat)) : Int) ≤ 9223372036854775807 ∧ ∀ s3 : List UInt8, s3 = s2 ++ ([10] : List UInt8) → ((((s0.length + s3.length : Nat)) : Int) ≤ 9223372036854775807 ∧ ∀ s4 : List UInt8, s4 = s0 ++ s3 → ((x7 + 1) ≤ 9223372036854775807 ∧ (((Int.toNat ((n1 : Int) + 1)) ≤ 9223372036854775807 ∧ c2 ≤ 9223372036854775807) ∧ (IntKind.i64.min ≤ (x7 + 1) ∧ (x7 + 1) ≤ IntKind.i64.max) ∧ ((F1 ((some p2).map fun p => p.add 0) (Int.toNat ((n1 : Int) + 1)) c2 s4 (x7 + 1) r1).1 ∧ (F1 ((some p2).map fun p => p.add 0) (Int.toNat ((n1 : Int) + 1)) c2 s4 (x7 + 1) r1).2 < (F1 p1 n1 c1 s0 x7 r0).2)))))))) ∧
 (x12 ≠ 2 →
 ((x12 = 3 →
 (dgt_pre x10 m ∧ ∀ m2 : Mem, MemSub m m2 → ∀ s1 : List UInt8, dgt_post x10 m2 s1 →
 ((((([98, 114, 101, 97, 107, 101, 114, 32] : List UInt8).length + s1.length : Nat)) : Int) ≤ 9223372036854775807 ∧ ∀ s2 : List UInt8, s2 = ([98, 114, 101, 97, 107, 101, 114, 32] : List UInt8) ++ s1 → ((((s2.length + ([10] : List UInt8).length : Nat)) : Int) ≤ 9223372036854775807 ∧ ∀ s3 : List UInt8, s3 = s2 ++ ([10] : List UInt8) → ((((s0.length + s3.length : Nat)) : Int) ≤ 9223372036854775807 ∧ ∀ s4 : List UInt8, s4 = s0 ++ s3 → ((x7 + 1) ≤ 9223372036854775807 ∧ (((Int.toNat ((n1 : Int) + 1)) ≤ 9223372036854775807 ∧ c2 ≤ 9223372036854775807) ∧ (IntKind.i64.min ≤ (x7 + 1) ∧ (x7 + 1) ≤ IntKind.i64.max) ∧ ((F1 ((some p2).map fun p => p.add 0) (Int.toNat ((n1 : Int) + 1)) c2 s4 (x7 + 1) r1).1 ∧ (F1 ((some p2).map fun p => p.add 0) (Int.toNat ((n1 : Int) + 1)) c2 s4 (x7 + 1) r1).2 < (F1 p1 n1 c1 s0 x7 r0).2)))))))) ∧
 (x12 ≠ 3 →
 ((x12 = 4 →
 (dgt_pre x10 m ∧ ∀ m2 : Mem, MemSub m m2 → ∀ s1 : List UInt8, dgt_post x10 m2 s1 →
 ((((([100, 117, 101, 32] : List UInt8).length + s1.length : Nat)) : Int) ≤ 9223372036854775807 ∧ ∀ s2 : List UInt8, s2 = ([100, 117, 101, 32] : List UInt8) ++ s1 → ((((s2.length + ([10] : List UInt8).length : Nat)) : Int) ≤ 9223372036854775807 ∧ ∀ s3 : List UInt8, s3 = s2 ++ ([10] : List UInt8) → ((((s0.length + s3.length : Nat)) : Int) ≤ 9223372036854775807 ∧ ∀ s4 : List UInt8, s4 = s0 ++ s3 → ((x7 + 1) ≤ 9223372036854775807 ∧ (((Int.toNat ((n1 : Int) + 1)) ≤ 9223372036854775807 ∧ c2 ≤ 9223372036854775807) ∧ (IntKind.i64.min ≤ (x7 + 1) ∧ (x7 + 1) ≤ IntKind.i64.max) ∧ ((F1 ((some p2).map fun p => p.add 0) (Int.toNat ((n1 : Int) + 1)) c2 s4 (x7 + 1) r1).1 ∧ (F1 ((some p2).map fun p => p.add 0) (Int.toNat ((n1 : Int) + 1)) c2 s4 (x7 + 1) r1).2 < (F1 p1 n1 c1 s0 x7 r0).2)))))))) ∧
 (x12 ≠ 4 →
 ((x12 = 5 →
 (dgt_pre x10 m ∧ ∀ m2 : Mem, MemSub m m2 → ∀ s1 : List UInt8, dgt_post x10 m2 s1 →
 ((((([116, 119, 105, 99, 101, 32] : List UInt8).length + s1.length : Nat)) : Int) ≤ 9223372036854775807 ∧ ∀ s2 : List UInt8, s2 = ([116, 119, 105, 99, 101, 32] : List UInt8) ++ s1 → ((((s2.length + ([10] : List UInt8).length : Nat)) : Int) ≤ 9223372036854775807 ∧ ∀ s3 : List UInt8, s3 = s2 ++ ([10] : List UInt8) → ((((s0.length + s3.length : Nat)) : Int) ≤ 9223372036854775807 ∧ ∀ s4 : List UInt8, s4 = s0 ++ s3 → ((x7 + 1) ≤ 9223372036854775807 ∧ (((Int.toNat ((n1 : Int) + 1)) ≤ 9223372036854775807 ∧ c2 ≤ 9223372036854775807) ∧ (IntKind.i64.min ≤ (x7 + 1) ∧ (x7 + 1) ≤ IntKind.i64.max) ∧ ((F1 ((some p2).map fun p => p.add 0) (Int.toNat ((n1 : Int) + 1)) c2 s4 (x7 + 1) r1).1 ∧ (F1 ((some p2).map fun p => p.add 0) (Int.toNat ((n1 : Int) + 1)) c2 s4 (x7 + 1) r1).2 < (F1 p1 n1 c1 s0 x7 r0).2)))))))) ∧
 (x12 ≠ 5 →
 ((x12 = 6 →
 (dgt_pre x10 m ∧ ∀ m2 : Mem, MemSub m m2 → ∀ s1 : List UInt8, dgt_post x10 m2 s1 →
 ((((([109, 105, 115, 115, 105, 110, 103, 32] : List UInt8).length + s1.length : Nat)) : Int) ≤ 9223372036854775807 ∧ ∀ s2 : List UInt8, s2 = ([109, 105, 115, 115, 105, 110, 103, 32] : List UInt8) ++ s1 → ((((s2.length + ([10] : List UInt8).length : Nat)) : Int) ≤ 9223372036854775807 ∧ ∀ s3 : List UInt8, s3 = s2 ++ ([10] : List UInt8) → ((((s0.length + s3.length : Nat)) : Int) ≤ 9223372036854775807 ∧ ∀ s4 : List UInt8, s4 = s0 ++ s3 → ((x7 + 1) ≤ 9223372036854775807 ∧ (((Int.toNat ((n1 : Int) + 1)) ≤ 9223372036854775807 ∧ c2 ≤ 9223372036854775807) ∧ (IntKind.i64.min ≤ (x7 + 1) ∧ (x7 + 1) ≤ IntKind.i64.max) ∧ ((F1 ((some p2).map fun p => p.add 0) (Int.toNat ((n1 : Int) + 1)) c2 s4 (x7 + 1) r1).1 ∧ (F1 ((some p2).map fun p => p.add 0) (Int.toNat ((n1 : Int) + 1)) c2 s4 (x7 + 1) r1).2 < (F1 p1 n1 c1 s0 x7 r0).2)))))))) ∧
 (x12 ≠ 6 →
 ((x12 = 7 →
 (dgt_pre x10 m ∧ ∀ m2 : Mem, MemSub m m2 → ∀ s1 : List UInt8, dgt_post x10 m2 s1 →
 ((((([114, 101, 116, 114, 121, 32] : List UInt8).length + s1.length : Nat)) : Int) ≤ 9223372036854775807 ∧ ∀ s2 : List UInt8, s2 = ([114, 101, 116, 114, 121, 32] : List UInt8) ++ s1 → ((((s2.length + ([10] : List UInt8).length : Nat)) : Int) ≤ 9223372036854775807 ∧ ∀ s3 : List UInt8, s3 = s2 ++ ([10] : List UInt8) → ((((s0.length + s3.length : Nat)) : Int) ≤ 9223372036854775807 ∧ ∀ s4 : List UInt8, s4 = s0 ++ s3 → ((x7 + 1) ≤ 9223372036854775807 ∧ (((Int.toNat ((n1 : Int) + 1)) ≤ 9223372036854775807 ∧ c2 ≤ 9223372036854775807) ∧ (IntKind.i64.min ≤ (x7 + 1) ∧ (x7 + 1) ≤ IntKind.i64.max) ∧ ((F1 ((some p2).map fun p => p.add 0) (Int.toNat ((n1 : Int) + 1)) c2 s4 (x7 + 1) r1).1 ∧ (F1 ((some p2).map fun p => p.add 0) (Int.toNat ((n1 : Int) + 1)) c2 s4 (x7 + 1) r1).2 < (F1 p1 n1 c1 s0 x7 r0).2)))))))) ∧
 (x12 ≠ 7 →
 False /- err 120 -/))))))))))))))))))))))))) ∧
 ((n4_ : Int) ≤ x7 →
 (∀ m2 : Mem, MemSub m m2 → RowAt m2 p1 r0 → ((n1 ≤ 9223372036854775807 ∧ c1 ≤ 9223372036854775807) ∧ aTxt_pre (p1.map fun p => p.add 0) n1 c1 m2 ∧ ∀ m3 : Mem, MemSub m2 m3 → ∀ s1 : List UInt8, ∀ x8 : Int, IntKind.i64.min ≤ x8 → x8 ≤ IntKind.i64.max → aTxt_post (p1.map fun p => p.add 0) n1 c1 m3 s1 x8 →
 (∀ b0 : Bool, b0 = decide (s1 = s0) → ((b0 = false →
 (lLin_post p0 n0 c0 x2 m3 false)) ∧
 (b0 = true →
 ((x8 ≠ 0 →
 (lLin_post p0 n0 c0 x2 m3 false)) ∧
 (x8 = 0 →
 (∃ F4 : Bool → Int → Prop × Nat, ((K.i64 0) ∧ (F4 false 0).1) ∧
 ∀ b1 : Bool, ∀ x9 : Int, IntKind.i64.min ≤ x9 → x9 ≤ IntKind.i64.max → (F4 b1 x9).1 →
 ((x9 < 4 →
 ((x9 = 0 →
 (∀ b2 : Bool, b2 = decide (p1 = none) → ((b2 = true →
 (∀ (p2 : Addr) (c2 : Nat) (m5 : Mem), MemSub m3 m5 → RowAt m5 (some p2) [(Value.int IntKind.i64 0), (Value.int IntKind.i64 0)] → c2 ≤ 9223372036854775807 → ((1 ≤ 9223372036854775807 ∧ c2 ≤ 9223372036854775807) ∧ aTxt_pre ((some p2).map fun p => p.add 0) 1 c2 m5 ∧ ∀ m6 : Mem, MemSub m5 m6 → ∀ s2 : List UInt8, ∀ x11 : Int, IntKind.i64.min ≤ x11 → x11 ≤ IntKind.i64.max → aTxt_post ((some p2).map fun p => p.add 0) 1 c2 m6 s2 x11 →
 (∀ b3 : Bool, b3 = decide (s2 = ([] : List UInt8)) → ((b3 = false →
 (lLin_post p0 n0 c0 x2 m6 false)) ∧
 (b3 = true →
 ((x11 ≠ 2 →
 (lLin_post p0 n0 c0 x2 m6 false)) ∧
 (x11 = 2 →
 ((K.i64 1) ∧ ((F4 b1 1).1 ∧ (F4 b1 1).2 < (F4 b1 x9).2)))))))))) ∧
 (b2 = false →
 (1 ≤ (n1 : Int) ∧ (∃ r1 : List Value, ((r1.length : Nat) : Int) = 0 * 2 ∧ (∀ (j : Nat) (v : Value), r1[j]? = some v → cellI m3 p1 (0 + (j : Int)) = some v) ∧ (∃ r2 : List Value, ((r2.length : Nat) : Int) = (n1 : Int) * 2 ∧ (∀ (j : Nat) (v : Value), r2[j]? = some v → cellI m3 p1 (0 + (j : Int)) = some v) ∧ ((2 * (n1 : Int) * 16 ≤ 281474976710656) ∧ ∀ (p2 : Option Addr) (c2 : Nat) (r3 : List Value), r3 = r1 ++ r2 → (n1 : Int) ≤ (c2 : Int) → c2 ≤ 9223372036854775807 → (p2 = none → (n1 : Int) = 0) → ((2 * ((n1 : Int) + 1) * 16 ≤ 281474976710656) ∧ ∀ (p3 : Addr) (c3 : Nat) (r4 : List Value), r4 = r3 ++ [(Value.int IntKind.i64 0), (Value.int IntKind.i64 0)] → (n1 : Int) + 1 ≤ (c3 : Int) → c3 ≤ 9223372036854775807 → (∀ m5 : Mem, MemSub m3 m5 → RowAt m5 (some p3) r4 → (((Int.toNat ((n1 : Int) + 1)) ≤ 9223372036854775807 ∧ c3 ≤ 9223372036854775807) ∧ aTxt_pre ((some p3).map fun p => p.add 0) (Int.toNat ((n1 : Int) + 1)) c3 m5 ∧ ∀ m6 : Mem, MemSub m5 m6 → ∀ s2 : List UInt8, ∀ x12 : Int, IntKind.i64.min ≤ x12 → x12 ≤ IntKind.i64.max → aTxt_post ((some p3).map fun p => p.add 0) (Int.toNat ((n1 : Int) + 1)) c3 m6 s2 x12 →
 (∀ b3 : Bool, b3 = decide (s2 = ([] : List UInt8)) → ((b3 = false →
 (lLin_post p0 n0 c0 x2 m6 false)) ∧
 (b3 = true →
 ((x12 ≠ 2 →
 (lLin_post p0 n0 c0 x2 m6 false)) ∧
 (x12 = 2 →
 ((K.i64 1) ∧ ((F4 b1 1).1 ∧ (F4 b1 1).2 < (F4 b1 x9).2)))))))))))))))))) ∧
 (x9 ≠ 0 →
 ((x9 = 1 →
 (∀ b2 : Bool, b2 = decide (p1 = none) → ((b2 = true →
 (∀ (p2 : Addr) (c2 : Nat) (m5 : Mem), MemSub m3 m5 → RowAt m5 (some p2) [(Value.int IntKind.i64 (9 + x2)), (Value.int IntKind.i64 0)] → c2 ≤ 9223372036854775807 → ((1 ≤ 9223372036854775807 ∧ c2 ≤ 9223372036854775807) ∧ aTxt_pre ((some p2).map fun p => p.add 0) 1 c2 m5 ∧ ∀ m6 : Mem, MemSub m5 m6 → ∀ s2 : List UInt8, ∀ x11 : Int, IntKind.i64.min ≤ x11 → x11 ≤ IntKind.i64.max → aTxt_post ((some p2).map fun p => p.add 0) 1 c2 m6 s2 x11 →
 (∀ b3 : Bool, b3 = decide (s2 = ([] : List UInt8)) → ((b3 = false →
 (lLin_post p0 n0 c0 x2 m6 false)) ∧
 (b3 = true →
 ((x11 ≠ 2 →
 (lLin_post p0 n0 c0 x2 m6 false)) ∧
 (x11 = 2 →
 ((K.i64 2) ∧ ((F4 b1 2).1 ∧ (F4 b1 2).2 < (F4 b1 x9).2)))))))))) ∧
 (b2 = false →
 (1 ≤ (n1 : Int) ∧ (∃ r1 : List Value, ((r1.length : Nat) : Int) = 0 * 2 ∧ (∀ (j : Nat) (v : Value), r1[j]? = some v → cellI m3 p1 (0 + (j : Int)) = some v) ∧ (∃ r2 : List Value, ((r2.length : Nat) : Int) = (n1 : Int) * 2 ∧ (∀ (j : Nat) (v : Value), r2[j]? = some v → cellI m3 p1 (0 + (j : Int)) = some v) ∧ ((2 * (n1 : Int) * 16 ≤ 281474976710656) ∧ ∀ (p2 : Option Addr) (c2 : Nat) (r3 : List Value), r3 = r1 ++ r2 → (n1 : Int) ≤ (c2 : Int) → c2 ≤ 9223372036854775807 → (p2 = none → (n1 : Int) = 0) → ((2 * ((n1 : Int) + 1) * 16 ≤ 281474976710656) ∧ ∀ (p3 : Addr) (c3 : Nat) (r4 : List Value), r4 = r3 ++ [(Value.int IntKind.i64 (9 + x2)), (Value.int IntKind.i64 0)] → (n1 : Int) + 1 ≤ (c3 : Int) → c3 ≤ 9223372036854775807 → (∀ m5 : Mem, MemSub m3 m5 → RowAt m5 (some p3) r4 → (((Int.toNat ((n1 : Int) + 1)) ≤ 9223372036854775807 ∧ c3 ≤ 9223372036854775807) ∧ aTxt_pre ((some p3).map fun p => p.add 0) (Int.toNat ((n1 : Int) + 1)) c3 m5 ∧ ∀ m6 : Mem, MemSub m5 m6 → ∀ s2 : List UInt8, ∀ x12 : Int, IntKind.i64.min ≤ x12 → x12 ≤ IntKind.i64.max → aTxt_post ((some p3).map fun p => p.add 0) (Int.toNat ((n1 : Int) + 1)) c3 m6 s2 x12 →
 (∀ b3 : Bool, b3 = decide (s2 = ([] : List UInt8)) → ((b3 = false →
 (lLin_post p0 n0 c0 x2 m6 false)) ∧
 (b3 = true →
 ((x12 ≠ 2 →
 (lLin_post p0 n0 c0 x2 m6 false)) ∧
 (x12 = 2 →
 ((K.i64 2) ∧ ((F4 b1 2).1 ∧ (F4 b1 2).2 < (F4 b1 x9).2)))))))))))))))))) ∧
 (x9 ≠ 1 →
 ((x9 = 2 →
 (∀ b2 : Bool, b2 = decide (p1 = none) → ((b2 = true →
 (∀ (p2 : Addr) (c2 : Nat) (m5 : Mem), MemSub m3 m5 → RowAt m5 (some p2) [(Value.int IntKind.i64 ((-1 : Int) - x2)), (Value.int IntKind.i64 0)] → c2 ≤ 9223372036854775807 → ((1 ≤ 9223372036854775807 ∧ c2 ≤ 9223372036854775807) ∧ aTxt_pre ((some p2).map fun p => p.add 0) 1 c2 m5 ∧ ∀ m6 : Mem, MemSub m5 m6 → ∀ s2 : List UInt8, ∀ x11 : Int, IntKind.i64.min ≤ x11 → x11 ≤ IntKind.i64.max → aTxt_post ((some p2).map fun p => p.add 0) 1 c2 m6 s2 x11 →
 (∀ b3 : Bool, b3 = decide (s2 = ([] : List UInt8)) → ((b3 = false →
 (lLin_post p0 n0 c0 x2 m6 false)) ∧
 (b3 = true →
 ((x11 ≠ 2 →
 (lLin_post p0 n0 c0 x2 m6 false)) ∧
 (x11 = 2 →
 ((K.i64 3) ∧ ((F4 b1 3).1 ∧ (F4 b1 3).2 < (F4 b1 x9).2)))))))))) ∧
 (b2 = false →
 (1 ≤ (n1 : Int) ∧ (∃ r1 : List Value, ((r1.length : Nat) : Int) = 0 * 2 ∧ (∀ (j : Nat) (v : Value), r1[j]? = some v → cellI m3 p1 (0 + (j : Int)) = some v) ∧ (∃ r2 : List Value, ((r2.length : Nat) : Int) = (n1 : Int) * 2 ∧ (∀ (j : Nat) (v : Value), r2[j]? = some v → cellI m3 p1 (0 + (j : Int)) = some v) ∧ ((2 * (n1 : Int) * 16 ≤ 281474976710656) ∧ ∀ (p2 : Option Addr) (c2 : Nat) (r3 : List Value), r3 = r1 ++ r2 → (n1 : Int) ≤ (c2 : Int) → c2 ≤ 9223372036854775807 → (p2 = none → (n1 : Int) = 0) → ((2 * ((n1 : Int) + 1) * 16 ≤ 281474976710656) ∧ ∀ (p3 : Addr) (c3 : Nat) (r4 : List Value), r4 = r3 ++ [(Value.int IntKind.i64 ((-1 : Int) - x2)), (Value.int IntKind.i64 0)] → (n1 : Int) + 1 ≤ (c3 : Int) → c3 ≤ 9223372036854775807 → (∀ m5 : Mem, MemSub m3 m5 → RowAt m5 (some p3) r4 → (((Int.toNat ((n1 : Int) + 1)) ≤ 9223372036854775807 ∧ c3 ≤ 9223372036854775807) ∧ aTxt_pre ((some p3).map fun p => p.add 0) (Int.toNat ((n1 : Int) + 1)) c3 m5 ∧ ∀ m6 : Mem, MemSub m5 m6 → ∀ s2 : List UInt8, ∀ x12 : Int, IntKind.i64.min ≤ x12 → x12 ≤ IntKind.i64.max → aTxt_post ((some p3).map fun p => p.add 0) (Int.toNat ((n1 : Int) + 1)) c3 m6 s2 x12 →
 (∀ b3 : Bool, b3 = decide (s2 = ([] : List UInt8)) → ((b3 = false →
 (lLin_post p0 n0 c0 x2 m6 false)) ∧
 (b3 = true →
 ((x12 ≠ 2 →
 (lLin_post p0 n0 c0 x2 m6 false)) ∧
 (x12 = 2 →
 ((K.i64 3) ∧ ((F4 b1 3).1 ∧ (F4 b1 3).2 < (F4 b1 x9).2)))))))))))))))))) ∧
 (x9 ≠ 2 →
 ((x9 = 3 →
 (∀ b2 : Bool, b2 = decide (p1 = none) → ((b2 = true →
 (∀ (p2 : Addr) (c2 : Nat) (m5 : Mem), MemSub m3 m5 → RowAt m5 (some p2) [(Value.int IntKind.i64 1), (Value.int IntKind.i64 ((-1 : Int) - x2))] → c2 ≤ 9223372036854775807 → ((1 ≤ 9223372036854775807 ∧ c2 ≤ 9223372036854775807) ∧ aTxt_pre ((some p2).map fun p => p.add 0) 1 c2 m5 ∧ ∀ m6 : Mem, MemSub m5 m6 → ∀ s2 : List UInt8, ∀ x11 : Int, IntKind.i64.min ≤ x11 → x11 ≤ IntKind.i64.max → aTxt_post ((some p2).map fun p => p.add 0) 1 c2 m6 s2 x11 →
 (∀ b3 : Bool, b3 = decide (s2 = ([] : List UInt8)) → ((b3 = false →
 (lLin_post p0 n0 c0 x2 m6 false)) ∧
 (b3 = true →
 ((x11 ≠ 2 →
 (lLin_post p0 n0 c0 x2 m6 false)) ∧
 (x11 = 2 →
 ((K.i64 4) ∧ ((F4 b1 4).1 ∧ (F4 b1 4).2 < (F4 b1 x9).2)))))))))) ∧
 (b2 = false →
 (1 ≤ (n1 : Int) ∧ (∃ r1 : List Value, ((r1.length : Nat) : Int) = 0 * 2 ∧ (∀ (j : Nat) (v : Value), r1[j]? = some v → cellI m3 p1 (0 + (j : Int)) = some v) ∧ (∃ r2 : List Value, ((r2.length : Nat) : Int) = (n1 : Int) * 2 ∧ (∀ (j : Nat) (v : Value), r2[j]? = some v → cellI m3 p1 (0 + (j : Int)) = some v) ∧ ((2 * (n1 : Int) * 16 ≤ 281474976710656) ∧ ∀ (p2 : Option Addr) (c2 : Nat) (r3 : List Value), r3 = r1 ++ r2 → (n1 : Int) ≤ (c2 : Int) → c2 ≤ 9223372036854775807 → (p2 = none → (n1 : Int) = 0) → ((2 * ((n1 : Int) + 1) * 16 ≤ 281474976710656) ∧ ∀ (p3 : Addr) (c3 : Nat) (r4 : List Value), r4 = r3 ++ [(Value.int IntKind.i64 1), (Value.int IntKind.i64 ((-1 : Int) - x2))] → (n1 : Int) + 1 ≤ (c3 : Int) → c3 ≤ 9223372036854775807 → (∀ m5 : Mem, MemSub m3 m5 → RowAt m5 (some p3) r4 → (((Int.toNat ((n1 : Int) + 1)) ≤ 9223372036854775807 ∧ c3 ≤ 9223372036854775807) ∧ aTxt_pre ((some p3).map fun p => p.add 0) (Int.toNat ((n1 : Int) + 1)) c3 m5 ∧ ∀ m6 : Mem, MemSub m5 m6 → ∀ s2 : List UInt8, ∀ x12 : Int, IntKind.i64.min ≤ x12 → x12 ≤ IntKind.i64.max → aTxt_post ((some p3).map fun p => p.add 0) (Int.toNat ((n1 : Int) + 1)) c3 m6 s2 x12 →
 (∀ b3 : Bool, b3 = decide (s2 = ([] : List UInt8)) → ((b3 = false →
 (lLin_post p0 n0 c0 x2 m6 false)) ∧
 (b3 = true →
 ((x12 ≠ 2 →
 (lLin_post p0 n0 c0 x2 m6 false)) ∧
 (x12 = 2 →
 ((K.i64 4) ∧ ((F4 b1 4).1 ∧ (F4 b1 4).2 < (F4 b1 x9).2)))))))))))))))))) ∧
 (x9 ≠ 3 →
 False /- err 120 -/))))))))) ∧
 (4 ≤ x9 →
 (∀ (p2 : Addr) (m5 : Mem), MemSub m3 m5 → RowAt m5 (some p2) (many 4369) → ((4369 ≤ 9223372036854775807 ∧ 4369 ≤ 9223372036854775807) ∧ aTxt_pre ((some p2).map fun p => p.add 0) 4369 4369 m5 ∧ ∀ m6 : Mem, MemSub m5 m6 → ∀ s2 : List UInt8, ∀ x10 : Int, IntKind.i64.min ≤ x10 → x10 ≤ IntKind.i64.max → aTxt_post ((some p2).map fun p => p.add 0) 4369 4369 m6 s2 x10 →
 (∀ (p3 : Addr) (c3 : Nat) (m7 : Mem), MemSub m6 m7 → RowAt m7 (some p3) (many 4370) → c3 ≤ 9223372036854775807 → ((4370 ≤ 9223372036854775807 ∧ c3 ≤ 9223372036854775807) ∧ aTxt_pre ((some p3).map fun p => p.add 0) 4370 c3 m7 ∧ ∀ m8 : Mem, MemSub m7 m8 → ∀ s3 : List UInt8, ∀ x12 : Int, IntKind.i64.min ≤ x12 → x12 ≤ IntKind.i64.max → aTxt_post ((some p3).map fun p => p.add 0) 4370 c3 m8 s3 x12 →
 (∀ x13 : Int, x13 = ((s2.length : Nat) : Int) → 0 ≤ x13 ∧ x13 ≤ 9223372036854775807 ∧ ((x13 = 65535 →
 ((x10 = 0 →
 (∀ b2 : Bool, b2 = decide (s3 = ([] : List UInt8)) → ((b2 = true →
 ((x12 = 11 →
 (wrk_pre  m8 ∧ ∀ m9 : Mem, MemSub m8 m9 → ∀ b3 : Bool, wrk_post  m9 b3 →
 (lLin_post p0 n0 c0 x2 m9 b3))) ∧
 (x12 ≠ 11 →
 (lLin_post p0 n0 c0 x2 m8 false)))) ∧
 (b2 = false →
 (lLin_post p0 n0 c0 x2 m8 false))))) ∧
 (x10 ≠ 0 →
 (lLin_post p0 n0 c0 x2 m8 false)))) ∧
 (x13 ≠ 65535 →
 (lLin_post p0 n0 c0 x2 m8 false)))))))))))))))))))))))))
set_option maxRecDepth 20000 in
set_option maxHeartbeats 4000000 in
theorem lLin_vc : lLin_VC := by
  intro m p0 n0 c0 hn0 hc0 x2 hx2a hx2b hpre x3 hx3
  obtain ⟨htm, hsp, hmx, hnc, l, hl1, hl2⟩ := hpre
  have b0 : IntKind.u8.min = 0 := rfl
  have b1 : IntKind.u8.max = 255 := rfl
  have b2 : IntKind.i64.min = -9223372036854775808 := rfl
  have b3 : IntKind.i64.max = 9223372036854775807 := rfl
  rw [b0] at hx2a; rw [b1] at hx2b
  have hx3' : x3 = min (n0 : Int) 100 := hx3
  have k64 : ∀ z : Int, -1000000 ≤ z → z ≤ 1000000 → K.i64 z := fun z h1 h2 => ⟨by rw [b2]; omega, by rw [b3]; omega⟩
  refine ⟨k64 _ (by omega) (by omega), by omega, by omega, x3.toNat, by omega, by omega, ?_⟩
  generalize hn4 : x3.toNat = n4
  have hn4a : n4 ≤ 100 := by omega
  have hn4b : n4 ≤ l.length := by omega
  have hin : ∀ (i : Nat) (x : Int), l[i]? = some x → u16In x := fun i x h => (hl2 i x h).2
  have hall : ∀ i, ∀ x ∈ l.take i, u16In x := fun i x hx => by
    obtain ⟨j, hj⟩ := List.getElem?_of_mem (List.mem_of_mem_take hx)
    exact hin j x hj
  refine ⟨fun p n c s x r => (linF l n4 p n c s x r, (n4 - x).toNat), ⟨k64 _ (by omega) (by omega), 0, rfl, by omega, rfl, rfl, rfl, fun _ => rfl, fun h => absurd rfl h⟩, ?_⟩
  intro p1 n1 c1 hn1 hc1 s0 x7 _ _ r0 hF
  obtain ⟨i, rfl, hi, hni, rfl, rfl, hp1, hp2⟩ := hF
  have hni' := hni.symm
  subst hni'
  refine ⟨fun hlt => ?_, fun hge => ?_⟩
  · have hil : i < l.length := by omega
    have e1 : l[i]? = some (l[i]'hil) := List.getElem?_eq_getElem _
    generalize l[i]'hil = x8 at e1
    obtain ⟨hc, hx8⟩ := hl2 i x8 e1
    have hx0 := hx8.1; have hx1 := hx8.2
    have hz : (0 : Int) + (i : Int) = (i : Int) := by omega
    rw [hz]
    obtain ⟨hne, hhas⟩ := hasI_of (m := m) (p := p0) (z := (i : Int)) (n := 1) (by omega) (fun j hj => by obtain rfl : j = 0 := (by omega); exact ⟨_, by simpa using hc⟩)
    have b4 : IntKind.u16.min = 0 := rfl
    have b5 : IntKind.u16.max = 65535 := rfl
    refine ⟨by omega, hne, hhas, x8, hc, ⟨by rw [b4]; omega, by rw [b5]; omega⟩, (by decide : (8 : Int) ≠ 0), fun x9 hx9 => ?_⟩
    have e9 : x9 = x8 % 8 := hx9.trans (Int.tmod_eq_emod_of_nonneg hx0)
    refine ⟨⟨by rw [b4]; omega, by rw [b5]; omega⟩, (by decide : (8 : Int) ≠ 0), fun x10 hx10 => ?_⟩
    have e10 : x10 = x8 / 8 := by
      rw [hx10]
      show IntKind.u16.wrap (x8.tdiv 8) = x8 / 8
      rw [Int.tdiv_eq_ediv_of_nonneg hx0]
      exact wrap_id (by rw [b4]; omega) (by rw [b5]; omega)
    refine ⟨⟨by rw [b4]; omega, by rw [b5]; omega⟩, by omega, fun p2 c2 r1 hr1 hc2 hc2' => ⟨(by decide : (8 : Int) ≠ 0), fun x12 hx12 => ?_⟩⟩
    have e12 : x12 = x8 % 8 := hx12.trans (Int.tmod_eq_emod_of_nonneg hx0)
    refine ⟨⟨by rw [b4]; omega, by rw [b5]; omega⟩, ?_⟩
    have ht : (l.take (i + 1)).map fwOf = (l.take i).map fwOf ++ [fwOf x8] := by
      rw [List.take_add_one, e1]; simp
    have hlen := ftext_len (l.take (i + 1)) (hall (i + 1))
    have htl : (l.take (i + 1)).length ≤ i + 1 := by rw [List.length_take]; omega
    have e5 : ((i : Int) + 1).toNat = i + 1 := by omega
    have er : r1 = fwRow ((l.take (i + 1)).map fwOf) := by
      rw [ht, fwRow_app, hr1, e9, e10]; rfl
    have step : ∀ (W s1 : List UInt8) (m2 : Mem), W = Fl.word (1 + x8 % 8) ++ [32] → dgt_post x10 m2 s1 →
        ((((W.length + s1.length : Nat)) : Int) ≤ 9223372036854775807 ∧ ∀ s2 : List UInt8, s2 = W ++ s1 → ((((s2.length + ([10] : List UInt8).length : Nat)) : Int) ≤ 9223372036854775807 ∧ ∀ s3 : List UInt8, s3 = s2 ++ ([10] : List UInt8) → ((((((ftext ((l.take i).map fwOf))).length + s3.length : Nat)) : Int) ≤ 9223372036854775807 ∧ ∀ s4 : List UInt8, s4 = ftext ((l.take i).map fwOf) ++ s3 →
          (((i : Int) + 1) ≤ 9223372036854775807 ∧ (((Int.toNat ((i : Int) + 1)) ≤ 9223372036854775807 ∧ c2 ≤ 9223372036854775807) ∧ (K.i64 ((i : Int) + 1)) ∧ (linF l n4 ((some p2).map fun p => p.add 0) (Int.toNat ((i : Int) + 1)) c2 s4 ((i : Int) + 1) r1 ∧ (n4 - ((i : Int) + 1)).toNat < (n4 - (i : Int)).toNat)))))) := by
      intro W s1 m2 hW hs1
      refine lin_cat (S := ftext ((l.take (i + 1)).map fwOf)) ?_ (by omega) ?_
      · have hs1' : s1 = Lib.decDigits x10.toNat := hs1
        rw [ht, ftext_app, ftext_one, hW, hs1', e10]
        rfl
      · refine ⟨by omega, ⟨by omega, hc2'⟩, k64 _ (by omega) (by omega), ⟨i + 1, by omega, by omega, e5, er, rfl, fun h => by simp at h, fun _ => by omega⟩, by omega⟩
    have hd : dgt_pre x10 m := ⟨htm, by omega⟩
    refine ⟨fun hk => ⟨hd, fun m2 _ s1 hs1 => step _ s1 m2 (by rw [← e12, hk]; rfl) hs1⟩, fun n0 => ?_⟩
    refine ⟨fun hk => ⟨hd, fun m2 _ s1 hs1 => step _ s1 m2 (by rw [← e12, hk]; rfl) hs1⟩, fun n1 => ?_⟩
    refine ⟨fun hk => ⟨hd, fun m2 _ s1 hs1 => step _ s1 m2 (by rw [← e12, hk]; rfl) hs1⟩, fun n2 => ?_⟩
    refine ⟨fun hk => ⟨hd, fun m2 _ s1 hs1 => step _ s1 m2 (by rw [← e12, hk]; rfl) hs1⟩, fun n3 => ?_⟩
    refine ⟨fun hk => ⟨hd, fun m2 _ s1 hs1 => step _ s1 m2 (by rw [← e12, hk]; rfl) hs1⟩, fun n4 => ?_⟩
    refine ⟨fun hk => ⟨hd, fun m2 _ s1 hs1 => step _ s1 m2 (by rw [← e12, hk]; rfl) hs1⟩, fun n5 => ?_⟩
    refine ⟨fun hk => ⟨hd, fun m2 _ s1 hs1 => step _ s1 m2 (by rw [← e12, hk]; rfl) hs1⟩, fun n6 => ?_⟩
    refine ⟨fun hk => ⟨hd, fun m2 _ s1 hs1 => step _ s1 m2 (by rw [← e12, hk]; rfl) hs1⟩, fun n7 => ?_⟩
    omega
  · intro m2 hm2 hrow
    have hii : i = n4 := by omega
    have hlt : (l.take i).length = i := by rw [List.length_take]; omega
    have hF : FwAt m2 p1 i ((l.take i).map fwOf) := ⟨by rw [List.length_map, hlt], ⟨hrow, fun h => by rw [hp1 h]; rfl⟩, fun x hx => by
      obtain ⟨y, hy, rfl⟩ := List.mem_map.1 hx
      exact fw_in (hall i y hy)⟩
    have hgood : txAns ((l.take i).map fwOf) = (ftext ((l.take i).map fwOf), 0) := by
      refine tx_good (fun x hx => ?_) ?_
      · obtain ⟨y, hy, rfl⟩ := List.mem_map.1 hx
        exact fw_good (hall i y hy)
      · have := ftext_len (l.take i) (hall i); omega
    generalize (l.take i).map fwOf = L at hF hgood ⊢
    rw [madd0]
    refine ⟨⟨hn1, hc1⟩, ⟨htm.sub hm2, by omega, L, hF⟩, fun m3 hm3 s1 x8 _ _ hpost b0' hb0 => ?_⟩
    have hF3 := hF.sub hm3
    have htm3 := (htm.sub hm2).sub hm3
    have hz := hpost L hF3
    rw [hgood] at hz
    obtain ⟨rfl, rfl⟩ := hz
    refine ⟨fun h => ?_, fun _ => ⟨fun h => absurd rfl h, fun _ => ?_⟩⟩
    · rw [hb0] at h; simp at h
    refine ⟨fun b x => (0 ≤ x ∧ x ≤ 4, (4 - x).toNat), ⟨k64 _ (by omega) (by omega), by omega, by omega⟩, fun b1' x9 _ _ hx9 => ⟨fun hlt => ?_, fun hge => ?_⟩⟩
    · obtain ⟨h90, h94⟩ := hx9
      have hp3 : p1 ≠ none → 1 ≤ i := fun h => hp2 h
      have hi100 : i ≤ 100 := by omega
      refine ⟨fun hk => one_ok (f1 := 0) (f2 := 0) htm3 hF3 hi100 hp3 ⟨k64 _ (by omega) (by omega), k64 _ (by omega) (by omega)⟩ (by decide) ⟨k64 _ (by omega) (by omega), ⟨by omega, by omega⟩, by simp only; omega⟩, fun n0 => ?_⟩
      refine ⟨fun hk => one_ok (f1 := 9 + x2) (f2 := 0) htm3 hF3 hi100 hp3 ⟨k64 _ (by omega) (by omega), k64 _ (by omega) (by omega)⟩ ?_ ⟨k64 _ (by omega) (by omega), ⟨by omega, by omega⟩, by simp only; omega⟩, fun n1 => ?_⟩
      · simp only [fbad, Bool.or_eq_true, decide_eq_true_eq]; omega
      refine ⟨fun hk => one_ok (f1 := -1 - x2) (f2 := 0) htm3 hF3 hi100 hp3 ⟨k64 _ (by omega) (by omega), k64 _ (by omega) (by omega)⟩ ?_ ⟨k64 _ (by omega) (by omega), ⟨by omega, by omega⟩, by simp only; omega⟩, fun n2 => ?_⟩
      · simp only [fbad, Bool.or_eq_true, decide_eq_true_eq]; omega
      refine ⟨fun hk => one_ok (f1 := 1) (f2 := -1 - x2) htm3 hF3 hi100 hp3 ⟨k64 _ (by omega) (by omega), k64 _ (by omega) (by omega)⟩ ?_ ⟨k64 _ (by omega) (by omega), ⟨by omega, by omega⟩, by simp only; omega⟩, fun n3 => ?_⟩
      · simp only [fbad, Bool.or_eq_true, decide_eq_true_eq]; omega
      omega
    · intro p2 m5 h5 hr5
      have hG := many_at hr5
      rw [madd0]
      refine ⟨⟨by decide, by decide⟩, ⟨htm3.sub h5, by decide, _, hG⟩, fun m6 h6 s2 x10 _ _ hq p3 c3 m7 h7 hr7 hc3 => ?_⟩
      have hy := hq _ (hG.sub h6)
      rw [tx_good many_good (by rw [many_len]; decide)] at hy
      obtain ⟨hy1, hy2⟩ := hy
      have hH := many_at hr7
      rw [madd0]
      have hm8 : ∀ {m8 : Mem}, MemSub m7 m8 → Globs m8 glMx := fun h8 => ((((((hmx.sub hm2).sub hm3).sub h5).sub h6).sub h7).sub h8)
      refine ⟨⟨by decide, hc3⟩, ⟨((htm3.sub h5).sub h6).sub h7, by decide, _, hH⟩, fun m8 h8 s3 x12 _ _ hr x13 hx13 => ?_⟩
      have hv := hr _ (hH.sub h8)
      rw [tx_long many_good (by rw [many_len]; decide)] at hv
      obtain ⟨rfl, rfl⟩ := hv
      have hl2 : s2.length = 65535 := by rw [hy1]; show (ftext _).length = _; rw [many_len]
      have hy2' : x10 = 0 := hy2
      refine ⟨by omega, by omega, fun h => ⟨fun _ b2' hb2 => ⟨fun _ => ⟨fun _ => ⟨hm8 h8, fun m9 _ b3' hb => hb⟩, fun h => absurd rfl h⟩, fun h => ?_⟩, fun h => absurd hy2' h⟩, fun h => ?_⟩
      · rw [hb2] at h; simp at h
      · omega
theorem lLin_pg : ∀ m, forallF lLin.args lLin.spec fun r => r.1 m → GlobsAt m glSp := fun m p n c x h => h.2.1.h
set_option maxRecDepth 20000 in
theorem lLin_ok : SpOk Tryz.prog lLin :=
  con_okG glSp rfl (sps_of [aTxt, dgt, wrk] ⟨aTxt_ok, ⟨dgt_ok, ⟨wrk_ok, trivial⟩⟩⟩ rfl) (tab_ok _ [⟨(138, 4), [], [], [(5, 26)], []⟩, ⟨(138, 14), [], [], [], []⟩]) 1000 lLin _ rfl rfl lLin_pg (Eq.mp (show lLin_VC = _ by kernel_rfl) lLin_vc)
end Go.Proofs.YtphcgfljfknbaaaGreatDoor.Vc
