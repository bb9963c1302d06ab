/-
  Small letters: what FieldCases makes of a text of two names.
-/
import Derived.Test.YtfhcnndleaoobaaGreatDoorFPlain4
import Derived.Test.YtfhcnndleaoobaaGreatDoorFBase
import Derived.Laws.IdiomStrings
set_option linter.unusedVariables false
set_option linter.unusedSimpArgs false
namespace Go.Proofs.YtfhcnndleaoobaaGreatDoor
open Go.RowKit
namespace Fs
def lo1 (b : UInt8) : UInt8 := if decide (65 ≤ b.toNat) && decide (b.toNat ≤ 90) then b + 32 else b
theorem lo1_fin : ∀ n : Fin 256, up (lo1 (UInt8.ofNat n.val)) = up (UInt8.ofNat n.val) ∧ letterB (lo1 (UInt8.ofNat n.val)) = letterB (UInt8.ofNat n.val) := by decide +kernel
theorem lo1_up (b : UInt8) : up (lo1 b) = up b ∧ letterB (lo1 b) = letterB b := by
  have h := lo1_fin ⟨b.toNat, b.toNat_lt⟩
  have e : UInt8.ofNat b.toNat = b := by simp
  simp only at h
  rw [e] at h; exact h
/-- The letters of some places are made small. -/
def lowB (f : Nat → Bool) (l : Bytes) : Bytes := l.mapIdx fun i b => if f i then lo1 b else b
theorem low_len (f : Nat → Bool) (l : Bytes) : (lowB f l).length = l.length := by simp [lowB]
theorem low_get (f : Nat → Bool) (l : Bytes) (i : Nat) : (lowB f l)[i]? = l[i]?.map fun b => if f i then lo1 b else b := by simp [lowB]
theorem low_up (f : Nat → Bool) (l : Bytes) : (lowB f l).map up = l.map up := by
  apply List.ext_getElem?
  intro i
  rw [List.getElem?_map, low_get, List.getElem?_map, Option.map_map]
  congr 1
  funext b
  simp only [Function.comp]
  split
  · exact (lo1_up b).1
  · rfl
theorem low_letters (f : Nat → Bool) (l : Bytes) (h : l.all letterB = true) : (lowB f l).all letterB = true := by
  rw [List.all_eq_true] at h ⊢
  intro b hb
  obtain ⟨i, hi⟩ := List.mem_iff_getElem?.1 hb
  rw [low_get, Option.map_eq_some_iff] at hi
  obtain ⟨c, hc, rfl⟩ := hi
  have := h c (List.mem_of_getElem? hc)
  split
  · rw [(lo1_up c).2]; exact this
  · exact this
theorem low_app (f : Nat → Bool) (T U : Bytes) : lowB f (T ++ 45 :: U) = lowB f T ++ 45 :: lowB (fun i => f (i + T.length + 1)) U := by
  apply List.ext_getElem?
  intro i
  rw [low_get]
  rcases Nat.lt_trichotomy i T.length with h | h | h
  · rw [List.getElem?_append_left h, List.getElem?_append_left (by rw [low_len]; exact h), low_get]
  · subst h
    rw [List.getElem?_append_right (Nat.le_refl _), List.getElem?_append_right (by rw [low_len]; exact Nat.le_refl _), low_len, Nat.sub_self]
    simp only [List.getElem?_cons_zero, Option.map_some]
    split <;> rfl
  · obtain ⟨j, rfl⟩ : ∃ j, i = T.length + (j + 1) := ⟨i - T.length - 1, by omega⟩
    rw [List.getElem?_append_right (by omega), List.getElem?_append_right (by rw [low_len]; omega), low_len, Nat.add_sub_cancel_left, List.getElem?_cons_succ, List.getElem?_cons_succ, low_get]
    rw [show j + T.length + 1 = T.length + (j + 1) from by omega]
theorem low_all (f : Nat → Bool) (l : Bytes) (n : Nat) (h : l.length ≤ n) : lowB (fun j => decide (j < n) && f j) l = lowB f l := by
  apply List.ext_getElem?
  intro j
  rw [low_get, low_get]
  rcases Nat.lt_or_ge j l.length with h2 | h2
  · have : decide (j < n) = true := decide_eq_true (by omega)
    rw [this, Bool.true_and]
  · rw [List.getElem?_eq_none h2]; rfl
theorem low_zero (f : Nat → Bool) (l : Bytes) : lowB (fun j => decide (j < 0) && f j) l = l := by
  apply List.ext_getElem?
  intro j
  rw [low_get]
  simp

/-- **Names in either case**, whole. -/
theorem low_plain {k : Kind} (hk : checkB k = true) {lo hi : Nat} (hlo : k.lo = lo) (hhi : k.hi = hi) {n m : Nat} (hn : lo ≤ n) (hnm : n ≤ m) (hm : m ≤ hi) {T U : Bytes} (hT : T.all letterB = true) (hU : U.all letterB = true) (hT0 : 0 < T.length) (hU0 : 0 < U.length)
    (hnT : idxOf k.names (T.map up) = some (n - lo)) (hmU : idxOf k.names (U.map up) = some (m - lo)) (f : Nat → Bool) :
    ∃ S, parse k (lowB f (T ++ 45 :: U)) = (S, false, 0, 0) ∧ parse k (dig n ++ 45 :: dig m) = (S, false, 0, 0) ∧ parse k T = (2 ^ n, false, 0, 0) := by
  obtain ⟨S, h1, h2⟩ := cases_plain hk hlo hhi hn hnm hm (low_letters f T hT) (low_letters (fun i => f (i + T.length + 1)) U hU) (by rw [low_len]; exact hT0) (by rw [low_len]; exact hU0) (by rw [low_up]; exact hnT) (by rw [low_up]; exact hmU)
  exact ⟨S, by rw [low_app]; exact h1, h2, name_plain hk hlo hhi hn (by omega) hT hT0 hnT⟩
end Fs

/-! ### The bytes in memory -/
theorem low_no (f : Nat → Bool) (l : Fs.Bytes) (i : Nat) (b : UInt8) (hb : l[i]? = some b) (hf : (if f i then Fs.lo1 b else b) = b) :
    Fs.lowB (fun j => decide (j < i + 1) && f j) l = Fs.lowB (fun j => decide (j < i) && f j) l := by
  apply List.ext_getElem?
  intro j
  rw [Fs.low_get, Fs.low_get]
  by_cases h : i = j
  · subst h
    rw [hb]
    simp [hf]
  · have e : decide (j < i + 1) = decide (j < i) := by
      by_cases h2 : j < i
      · simp [h2]; omega
      · simp [h2]; omega
    rw [e]
/-- The bytes l lie in the block g. -/
structure BytesAt (w : World) (g : Nat) (l : Fs.Bytes) : Prop where
  lt : g < w.heap.size
  cell : ∀ j b, l[j]? = some b → w.cell? ⟨g, j, none⟩ = some (.int .u8 b.toNat)
  free : ∀ j, j < l.length → w.frozen? ⟨g, j, none⟩ = false

theorem bytes_made (W : World) (s : ByteArray) (n : Nat) (hn : s.size = n) : ∃ (cap : Nat) (C : Array Value), (convert 9 65 (.string s)).run Tryz.prog W = .ok (.slice (some ⟨W.heap.size, 0, none⟩) n cap) (W.drew.alloc (.cells C 5 (C.size, C.size + 1))) ∧
    BytesAt (W.drew.alloc (.cells C 5 (C.size, C.size + 1))) W.heap.size s.data.toList := by
  subst hn
  refine ⟨_, _, run_bytes_of_string W 9 65 5 s Tryz.underlying9 Tryz.underlying65 Tryz.underlying5, by simp only [World.size_alloc]; exact Nat.lt_succ_self _, fun j b hb => ?_, fun j hj => ?_⟩
  · have := World.cell?_alloc_mark W.drew (bytesRow s (grownCap W s.size 0 5)) 5 ((bytesRow s (grownCap W s.size 0 5)).size, (bytesRow s (grownCap W s.size 0 5)).size + 1) j
    refine Eq.trans this ?_
    have hj := (List.getElem?_eq_some_iff.1 hb).1
    unfold bytesRow
    rw [Array.getElem?_append_left (by simpa using hj), Array.getElem?_map]
    rw [Array.getElem?_toList] at hb
    rw [hb]; rfl
  · have := World.frozen?_alloc_mark W.drew (bytesRow s (grownCap W s.size 0 5)) 5 (bytesRow s (grownCap W s.size 0 5)).size ((bytesRow s (grownCap W s.size 0 5)).size + 1) j
    refine Eq.trans this ?_
    have hlt : j < (bytesRow s (grownCap W s.size 0 5)).size := by
      unfold bytesRow
      rw [Array.size_append, Array.size_map]
      have : s.data.toList.length = s.data.size := Array.length_toList
      omega
    rw [decide_eq_false (by omega), Bool.false_and]

theorem lo1_nat {b : UInt8} (h1 : 65 ≤ b.toNat) (h2 : b.toNat ≤ 90) : ((Fs.lo1 b).toNat : Int) = (b.toNat : Int) + 32 := by
  unfold Fs.lo1
  rw [decide_eq_true h1, decide_eq_true h2]
  simp only [Bool.and_self, if_true, UInt8.toNat_add]
  have : (32 : UInt8).toNat = 32 := rfl
  omega
theorem lo1_same {b : UInt8} (h : ¬ (65 ≤ b.toNat ∧ b.toNat ≤ 90)) : Fs.lo1 b = b := by
  unfold Fs.lo1
  rw [if_neg]
  simpa using h

theorem BytesAt.at_ {w : World} {g i : Nat} {f : Nat → Bool} {l : Fs.Bytes} (h : BytesAt w g (Fs.lowB (fun j => decide (j < i) && f j) l)) {b : UInt8} (hb : l[i]? = some b) : w.cell? ⟨g, i, none⟩ = some (.int .u8 b.toNat) ∧ w.frozen? ⟨g, i, none⟩ = false :=
  ⟨h.cell i b (by rw [Fs.low_get, hb]; simp), h.free i (by rw [Fs.low_len]; exact (List.getElem?_eq_some_iff.1 hb).1)⟩
theorem BytesAt.yes {w : World} {g i : Nat} {f : Nat → Bool} {l : Fs.Bytes} (h : BytesAt w g (Fs.lowB (fun j => decide (j < i) && f j) l)) {b : UInt8} (hb : l[i]? = some b) (hf : f i = true) (v : Int) (hv : v = (Fs.lo1 b).toNat) :
    BytesAt (w.setCell ⟨g, i, none⟩ (.int .u8 v)) g (Fs.lowB (fun j => decide (j < i + 1) && f j) l) := by
  subst hv
  have hlt := (List.getElem?_eq_some_iff.1 hb).1
  refine ⟨by simpa [World.setCell] using h.lt, fun j c hc => ?_, fun j hj => ?_⟩
  · by_cases hj : j = i
    · subst hj
      rw [World.cell?_setCell_same (h := (h.at_ hb).1)]
      rw [Fs.low_get, hb] at hc
      simp [hf] at hc
      rw [hc]
    · rw [World.cell?_setCell_other _ _ _ _ (by intro e; injection e with _ e _; omega)]
      refine h.cell j c ?_
      rw [Fs.low_get] at hc ⊢
      have e : decide (j < i + 1) = decide (j < i) := by
        by_cases h2 : j < i
        · simp [h2]; omega
        · simp [h2]; omega
      rw [e] at hc; exact hc
  · rw [World.frozen?_setCell]
    exact h.free j (by rw [Fs.low_len] at hj ⊢; exact hj)
theorem BytesAt.no {w : World} {g i : Nat} {f : Nat → Bool} {l : Fs.Bytes} (h : BytesAt w g (Fs.lowB (fun j => decide (j < i) && f j) l)) {b : UInt8} (hb : l[i]? = some b) (hf : (if f i then Fs.lo1 b else b) = b) :
    BytesAt w g (Fs.lowB (fun j => decide (j < i + 1) && f j) l) := by
  rw [low_no f l i b hb hf]; exact h
theorem BytesAt.back {w : World} {g : Nat} {l : Fs.Bytes} (h : BytesAt w g l) (n c : Nat) (hn : l.length = n) : (convert 65 9 (.slice (some ⟨g, 0, none⟩) n c)).run Tryz.prog w = .ok (.string ⟨l.toArray⟩) w := by
  subst hn
  refine run_convert_bytes_back w 65 9 5 ⟨g, 0, none⟩ c l Tryz.underlying65 Tryz.underlying5 Tryz.underlying9 fun j hj => ?_
  have ea : ({ block := g, off := 0, spot := none } : Addr).add j = ⟨g, j, none⟩ := by
    unfold Addr.add
    split
    · rename_i h; simp [h]
    · simp
  rw [ea]
  exact h.cell j _ (List.getElem?_eq_getElem hj)
end Go.Proofs.YtfhcnndleaoobaaGreatDoor
