/-
  AuditLines: flaws as memory; audit.Text and lex.Digits as contracts; the text of flaws in plain words.
-/
import Derived.Test.YtphcgfljfknbaaaGreatDoorWJ
import Derived.Test.YtphcgfljfknbaaaGreatDoorWG
import Derived.Test.YtphcgfljfknbaaaGreatDoorWH
set_option linter.unusedVariables false
set_option linter.unusedSimpArgs false
set_option linter.unusedVariables false
set_option linter.unusedSimpArgs false
namespace Go.Proofs.YtphcgfljfknbaaaGreatDoor.Vc
open Go.RowKit As
/-- The tables that the text of numbers and flaws is written by. -/
def TM (m : Mem) : Prop := ∀ w : World, (∀ b o, m b = some o → w.heap[b]? = some o) → PowTab w ∧ WordsV w
theorem TM.sub {m m' : Mem} (h : MemSub m m') (k : TM m) : TM m' := fun w hw => k w (fun b o hb => hw b o (h b o hb))
def dgt_pre (x : Int) (m : Mem) : Prop := TM m ∧ 0 ≤ x
def dgt_post (x : Int) (m : Mem) (s : List UInt8) : Prop := s = Lib.decDigits x.toNat
def dgt : Sp := { args := [.i .i64], grp := [none], res := [.s], rgrp := [none], fn := 5, spec := fun a0 => (dgt_pre a0, dgt_post a0) }
theorem dgt_ok : SpOk Tryz.prog dgt := by
  intro m w ys xs hm hp ha
  match ys, ha with
  | [.int k x], ha =>
    obtain ⟨hk, hx, htm, h0⟩ := ha
    cases hp
    have hk : k = .i64 := hk
    subst hk
    have hx2 : x ≤ 9223372036854775807 := by have := hx.2; rw [IntKind.max_i64] at this; exact this
    refine (digits x (by omega) hx2 w (htm w hm).1).mono fun e w' h => ?_
    obtain ⟨rfl, hb⟩ := h
    refine ⟨m, [.string ⟨(Lib.itoa x).toArray⟩], _, rfl, rfl, hb, fun b o h => h, fun b o h => ⟨?_, .inl h⟩, rfl, hx, ?_⟩
    · have hlt : b < w.heap.size := (Array.getElem?_eq_some_iff.1 (hm b o h)).1
      rw [hb.block _ hlt]; exact hm b o h
    · show (⟨(Lib.itoa x).toArray⟩ : ByteArray).data.toList = Lib.decDigits x.toNat
      unfold Lib.itoa
      rw [if_neg (by omega)]
abbrev Fw := Int × Int
def fwRow : List Fw → List Value
  | [] => []
  | x :: l => .int .i64 x.1 :: .int .i64 x.2 :: fwRow l
def fwIn (x : Fw) : Prop := K.i64 x.1 ∧ K.i64 x.2
def FwAt (m : Mem) (p : Option Addr) (n : Nat) (L : List Fw) : Prop := L.length = n ∧ RowM m p (fwRow L) ∧ ∀ x ∈ L, fwIn x
theorem fwRow_app (l l' : List Fw) : fwRow (l ++ l') = fwRow l ++ fwRow l' := by
  induction l with
  | nil => rfl
  | cons x l ih => simp [fwRow, ih]
theorem fwRow_len (l : List Fw) : (fwRow l).length = 2 * l.length := by
  induction l with
  | nil => rfl
  | cons x l ih => simp only [fwRow, List.length_cons, ih]; omega
theorem fwRow_get : ∀ (L : List Fw) (i : Nat) (x : Fw), L[i]? = some x → (fwRow L)[2 * i]? = some (.int .i64 x.1) ∧ (fwRow L)[2 * i + 1]? = some (.int .i64 x.2) := by
  intro L
  induction L with
  | nil => intro i x h; simp at h
  | cons y L ih =>
    intro i x h
    cases i with
    | zero => simp at h; subst h; exact ⟨rfl, rfl⟩
    | succ i =>
      simp at h
      have := ih i x h
      rw [show 2 * (i + 1) = 2 * i + 1 + 1 by omega]
      simpa [fwRow] using this
theorem FwAt.uniq {m : Mem} {p : Option Addr} {n : Nat} {L L' : List Fw} (h : FwAt m p n L) (h' : FwAt m p n L') : L = L' := by
  apply List.ext_getElem?
  intro i
  by_cases hi : i < n
  · have e1 : L[i]? = some (L[i]'(by rw [h.1]; exact hi)) := List.getElem?_eq_getElem _
    have e2 : L'[i]? = some (L'[i]'(by rw [h'.1]; exact hi)) := List.getElem?_eq_getElem _
    generalize L[i]'(by rw [h.1]; exact hi) = x at e1
    generalize L'[i]'(by rw [h'.1]; exact hi) = x' at e2
    have b1 := h.2.2 x (List.mem_of_getElem? e1)
    have b2 := h'.2.2 x' (List.mem_of_getElem? e2)
    obtain ⟨g1, g2⟩ := fwRow_get L i x e1
    obtain ⟨g3, g4⟩ := fwRow_get L' i x' e2
    have k1 := (h.2.1.int g1 b1.1).1.symm.trans (h'.2.1.int g3 b2.1).1
    have k2 := (h.2.1.int g2 b1.2).1.symm.trans (h'.2.1.int g4 b2.2).1
    rw [e1, e2]
    obtain ⟨x1, x2⟩ := x
    obtain ⟨y1, y2⟩ := x'
    injection k1 with k1; injection k1 with _ k1
    injection k2 with k2; injection k2 with _ k2
    have k1 : x1 = y1 := k1
    have k2 : x2 = y2 := k2
    rw [k1, k2]
  · rw [List.getElem?_eq_none (by rw [h.1]; omega), List.getElem?_eq_none (by rw [h'.1]; omega)]
def fwK (L : List Fw) (i : Nat) : Int := (L.getD i (0, 0)).1
def fwT (L : List Fw) (i : Nat) : Int := (L.getD i (0, 0)).2
theorem fw_flaws {m : Mem} {w : World} {p : Option Addr} {n : Nat} {L : List Fw} (hm : ∀ b o, m b = some o → w.heap[b]? = some o) (h : FwAt m p n L) : FlawsAt w p n (fwK L) (fwT L) := by
  have getD : ∀ i, i < n → ∃ x, L[i]? = some x ∧ fwK L i = x.1 ∧ fwT L i = x.2 := fun i hi => by
    have e1 : L[i]? = some (L[i]'(by rw [h.1]; exact hi)) := List.getElem?_eq_getElem _
    exact ⟨_, e1, by simp [fwK, e1], by simp [fwT, e1]⟩
  refine ⟨fun i hi => ?_, ?_⟩
  · obtain ⟨x, hx, e1, e2⟩ := getD i hi
    have := h.2.2 x (List.mem_of_getElem? hx)
    have b1 := this.1; have b2 := this.2
    unfold K.i64 at b1 b2
    rw [IntKind.max_i64, show IntKind.i64.min = -9223372036854775808 from rfl] at b1 b2
    rw [e1, e2]
    exact ⟨b1.1, b1.2, b2.1, b2.2⟩
  · rcases Nat.eq_zero_or_pos n with h0 | h0
    · exact .inl h0
    · right
      cases p with
      | none =>
        have h2 := h.2.1.2 rfl
        have := congrArg List.length h2
        rw [fwRow_len, h.1] at this
        simp at this; omega
      | some q =>
        have cell : ∀ (j : Nat) (v : Value), (fwRow L)[j]? = some v → memCell m (q.add j) = some v := fun j v hj => h.2.1.1 q rfl j v hj
        have hspot : q.spot = none := by
          obtain ⟨x, hx, _⟩ := getD 0 h0
          have h1 := cell 0 _ (fwRow_get L 0 x hx).1
          have : q.add 0 = q := by simp [Addr.add]
          rw [this] at h1
          unfold memCell at h1
          split at h1
          · split at h1
            · cases h1
            · rename_i hsp; simpa using hsp
          · cases h1
        obtain ⟨b, off, spot⟩ := q
        have hs : spot = none := hspot
        subst hs
        have up : ∀ (j : Nat) (v : Value), (fwRow L)[j]? = some v → w.cell? ⟨b, off + j, none⟩ = some v := fun j v hj => by
          have h1 := memCell_up (m' := fun b => w.heap[b]?) hm (cell j v hj)
          have e : (Addr.add ⟨b, off, none⟩ j) = ⟨b, off + j, none⟩ := Addr.add_lit ..
          rw [e] at h1
          exact h1
        refine ⟨b, off, rfl, ?_, fun i hi => ?_⟩
        · obtain ⟨x, hx, _⟩ := getD 0 h0
          have h1 := up 0 _ (fwRow_get L 0 x hx).1
          unfold World.cell? at h1
          split at h1
          · rename_i hb; exact (Array.getElem?_eq_some_iff.1 hb).1
          · cases h1
        · obtain ⟨x, hx, e1, e2⟩ := getD i hi
          obtain ⟨g1, g2⟩ := fwRow_get L i x hx
          rw [e1, e2, Nat.mul_comm i 2]
          exact ⟨up _ _ g1, by have := up _ _ g2; rwa [← Nat.add_assoc] at this⟩
def fline (x : Fw) : List UInt8 := Fl.word x.1 ++ [32] ++ Lib.decDigits x.2.toNat ++ [10]
def ftext (L : List Fw) : List UInt8 := L.flatMap fline
def fbad (x : Fw) : Bool := decide (x.1 < 1) || decide (x.1 > 8) || decide (x.2 < 0)
theorem fl_lines (L : List Fw) : ∀ n, n ≤ L.length → Fl.lines (fwK L) (fwT L) n = ftext (L.take n) := by
  intro n
  induction n with
  | zero => intro _; rfl
  | succ n ih =>
    intro h
    have e1 : L[n]? = some (L[n]'(by omega)) := List.getElem?_eq_getElem _
    rw [Fl.lines, ih (by omega), List.take_add_one, e1]
    have e2 : Fl.line (fwK L) (fwT L) n = fline (L[n]'(by omega)) := by
      simp [Fl.line, fline, fwK, fwT, e1]
    rw [e2]
    simp only [ftext, List.flatMap_append, Option.toList_some, List.flatMap_cons, List.flatMap_nil, List.append_nil]
theorem fl_bad (L : List Fw) : Fl.anyBad (fwK L) (fwT L) L.length = L.any fbad := by
  cases h : L.any fbad with
  | true =>
    obtain ⟨x, hx, hb⟩ := List.any_eq_true.1 h
    obtain ⟨i, hi⟩ := List.getElem?_of_mem hx
    have hl : i < L.length := (List.getElem?_eq_some_iff.1 hi).1
    refine Fl.anyBad_of _ _ _ i hl ?_
    simp only [Fl.bad, fwK, fwT, List.getD_eq_getElem?_getD, hi, Option.getD_some]
    exact hb
  | false =>
    refine Fl.noBad_of _ _ _ (fun i hl => ?_)
    have e1 : L[i]? = some (L[i]'hl) := List.getElem?_eq_getElem _
    have := List.any_eq_false.1 h _ (List.mem_of_getElem? e1)
    simp only [Fl.bad, fwK, fwT, List.getD_eq_getElem?_getD, e1, Option.getD_some]
    simpa [fbad] using this
def txAns (L : List Fw) : List UInt8 × Int := if L.any fbad then ([], 2) else if (ftext L).length > 65536 then ([], 11) else (ftext L, 0)
theorem fl_ans {L : List Fw} {n : Nat} (h : L.length = n) : Fl.ans (fwK L) (fwT L) n = txAns L := by
  subst h
  unfold Fl.ans txAns
  rw [fl_bad, fl_lines L _ (Nat.le_refl _), List.take_length]
def aTxt_pre (p : Option Addr) (n c : Nat) (m : Mem) : Prop := TM m ∧ n ≤ 100000 ∧ ∃ L, FwAt m p n L
def aTxt_post (p : Option Addr) (n c : Nat) (m : Mem) (s : List UInt8) (z : Int) : Prop := ∀ L, FwAt m p n L → s = (txAns L).1 ∧ z = (txAns L).2
def aTxt : Sp := { args := [.sl], grp := [none], res := [.s, .i .i64], rgrp := [none, none], fn := 6, spec := fun a0 a1 a2 => (aTxt_pre a0 a1 a2, aTxt_post a0 a1 a2) }
theorem tx_int (L : List Fw) : IntKind.i64.min ≤ (txAns L).2 ∧ (txAns L).2 ≤ IntKind.i64.max := by
  unfold txAns
  split
  · exact ⟨by decide, by decide⟩
  · split
    · exact ⟨(by decide : IntKind.i64.min ≤ 11), (by decide : (11 : Int) ≤ IntKind.i64.max)⟩
    · exact ⟨(by decide : IntKind.i64.min ≤ 0), (by decide : (0 : Int) ≤ IntKind.i64.max)⟩
theorem aTxt_ok : SpOk Tryz.prog aTxt := by
  intro m w ys xs hm hp ha
  match ys, ha with
  | [.slice p n c], ha =>
    obtain ⟨hnc, htm, hn, L, hL⟩ := ha
    cases hp
    obtain ⟨hpow, hwords⟩ := htm w hm
    have hA := audit_Text p n c (fwK L) (fwT L) w hn (fw_flaws hm hL) hpow hwords
    rw [fl_ans hL.1] at hA
    refine hA.mono fun e w' h => ?_
    obtain ⟨rfl, hb⟩ := h
    refine ⟨m, [.string ⟨(txAns L).1.toArray⟩, .int .i64 (txAns L).2], _, rfl, rfl, hb, fun b o h => h, fun b o h => ⟨?_, .inl h⟩, hnc, rfl, tx_int L, ?_⟩
    · have hlt : b < w.heap.size := (Array.getElem?_eq_some_iff.1 (hm b o h)).1
      rw [hb.block _ hlt]; exact hm b o h
    · intro L' hL'
      rw [← hL.uniq hL']
      exact ⟨by simp, rfl⟩
end Go.Proofs.YtphcgfljfknbaaaGreatDoor.Vc
