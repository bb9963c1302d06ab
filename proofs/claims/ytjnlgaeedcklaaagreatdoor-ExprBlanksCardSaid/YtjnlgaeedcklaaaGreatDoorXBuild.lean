/-
  A builder's writing, by the shelf; a row of bytes among a law's arguments; plain: blanks by turns between words.
-/
import Derived.Test.YtjnlgaeedcklaaaGreatDoorFShelfB
import Derived.Test.YtjnlgaeedcklaaaGreatDoorXPlain6
import Derived.Lib.Repeat
import Derived.ChangeArms
import Derived.OpenShut
import Derived.WideShapes
import Derived.Test.YtjnlgaeedcklaaaGreatDoorFBase
set_option linter.unusedVariables false
set_option linter.unusedSimpArgs false
namespace Go.Proofs.YtjnlgaeedcklaaaGreatDoor
open Go.RowKit

abbrev IsB (b : Nat) (l : List UInt8) (W : World) : Prop := Lib.IsBuilderF 72 5 b b (Lib.byteCells l) W
theorem write_byte (b : Nat) (l : List UInt8) (c : UInt8) (w : World) (h : IsB b l w) (hlen : l.length ≤ 1000000) (hb : b ≤ w.heap.size) :
    Calls Tryz.prog 35 #[.pointer (some ⟨b, 0, none⟩), .int .u8 c.toNat] w fun e w' => e = .returned .nilIface ∧ IsB b (l ++ [c]) w' ∧ Below b w w' ∧ Lib.OthersKept 5 (some b) w w' := by
  have := Any.Builder_WriteByte_k { Tryz.lays158 with } Tryz.Builder_Extra_158 b b (Lib.byteCells l) c.toNat w h (by rw [Lib.byteCells_length]; omega) hb
  refine this.mono fun e w' ⟨h1, h2, h3, h4⟩ => ⟨h1, .inr ?_, h3, h4⟩
  rw [show Lib.byteCells (l ++ [c]) = Lib.byteCells l ++ [.int .u8 c.toNat] by unfold Lib.byteCells; rw [List.map_append]; rfl]
  exact h2
theorem write_string (b : Nat) (l : List UInt8) (s : ByteArray) (w : World) (h : IsB b l w) (hlen : l.length + s.size ≤ 1000000) (hb : b ≤ w.heap.size) :
    Calls Tryz.prog 36 #[.pointer (some ⟨b, 0, none⟩), .string s] w fun e w' => e = .returned (.tuple #[.int .i64 s.size, .nilIface]) ∧ IsB b (l ++ s.data.toList) w' ∧ Below b w w' ∧ Lib.OthersKept 5 (some b) w w' := by
  have := Any.Builder_WriteString_k { Tryz.lays158 with } Tryz.Builder_Extra_158 b b (Lib.byteCells l) s w h (by rw [Lib.byteCells_length]; omega) hb
  refine this.mono fun e w' ⟨h1, h2, h3, h4⟩ => ⟨h1, .inr ?_, h3, h4⟩
  rw [show Lib.byteCells (l ++ s.data.toList) = Lib.byteCells l ++ Lib.strCells s by unfold Lib.byteCells Lib.strCells; rw [List.map_append]]
  exact h2
theorem build_string (b : Nat) (l : List UInt8) (w : World) (h : IsB b l w) (h0 : l ≠ []) :
    Calls Tryz.prog 38 #[.pointer (some ⟨b, 0, none⟩)] w fun e w' => e = .returned (.string ⟨l.toArray⟩) ∧ IsB b l w' ∧ Below b w w' ∧ Lib.OthersKept 5 (some b) w w' :=
  Any.Builder_String_k { Tryz.lays158 with } Tryz.Builder_Extra_158 b b l w h h0
theorem build_len (b : Nat) (l : List UInt8) (w : World) (h : IsB b l w) :
    Calls Tryz.prog 39 #[.pointer (some ⟨b, 0, none⟩)] w fun e w' => e = .returned (.int .i64 l.length) ∧ w = w' := by
  have := Tryz.Builder_Len_f b b (Lib.byteCells l) w h
  rw [Lib.byteCells_length] at this
  exact this.mono fun e w' ⟨h1, h2⟩ => ⟨h1, h2.symm⟩
theorem repeat_blank (c : Nat) (hc : c ≤ 1000) (w : World) :
    Calls Tryz.prog 37 #[.string { data := #[32] }, .int .i64 c] w fun e w' => e = .returned (.string ⟨(Lib.repeatL [32] c).toArray⟩) ∧ Below w.heap.size w w' :=
  Tryz.strings_Repeat ⟨#[32]⟩ c w (by omega) (by show 1 * c ≤ _; omega)

namespace XRow
open Go.ChangeShapes Go.WideShapes
theorem add_spot6 (b o j : Nat) : ({ block := b, off := o, spot := none } : Addr).add j = ⟨b, o + j, none⟩ := by
  unfold Addr.add
  split
  · rename_i h; simp [h]
  · rfl
theorem cells_byte1 : Tryz.prog.cellsOf 5 = 1 := by kernel_rfl
set_option maxRecDepth 100000 in
theorem open_bytes {H : Type} {enc : TypeId × Value → H} {W : World} {base : Nat} {sp : Nat → Bool} {held : Bool} {v : Value} {d : DataW H} {p : List MemPlace}
    (hv : Value.okWide Tryz.prog W .any base 69 v) (h : DataW.Trod enc Tryz.prog W 0 sp held 69 v d p) :
    ∃ (A : Option Addr) (n c : Nat), v = .slice A n c ∧ n ≤ c ∧ c ≤ maxLen ∧ (A = none → c = 0) ∧
      (n = 0 ∨ ∃ b off, A = some ⟨b, off, none⟩ ∧ b < W.heap.size ∧ ∃ t : Nat → Nat, ∀ j, j < n → t j < 256 ∧ W.cell? ⟨b, off + j, none⟩ = some (.int .u8 (t j))) := by
  obtain ⟨a, len, cap, rfl⟩ := Go.WideShapes.okWide_slice Tryz.underlying69 hv
  obtain ⟨fuel, hf⟩ := h
  rcases DataW.trod_slice Tryz.underlying69 hf with ⟨hcs, hx⟩ | ⟨a', len', cap', elems, rest, n, rfl, hcs, hx, hb, hl, hm, hel, hel2, -, -⟩
  · simp [Value.cells] at hcs
    obtain ⟨rfl, rfl, rfl⟩ := hcs
    exact ⟨none, 0, 0, rfl, Nat.le_refl _, Nat.zero_le _, fun _ => rfl, .inl rfl⟩
  · simp [Value.cells] at hcs
    obtain ⟨rfl, rfl, rfl⟩ := hcs
    refine ⟨some a', len, cap, rfl, hl, hm, (by rintro ⟨⟩), ?_⟩
    rw [cells_byte1] at hel2
    have one : ∀ i, i < len → ∃ z : Int, 0 ≤ z ∧ z < 256 ∧ W.cell? ((a'.add (i * 1)).add 0) = some (.int .u8 z) := by
      intro i hi
      have h1 := hel2 i hi
      rw [List.getElem?_eq_getElem (by omega)] at h1
      obtain ⟨cs, hc1, hc2⟩ := Option.bind_eq_some_iff.1 h1
      obtain ⟨-, hlen, hcell⟩ := World.cells?_some hc1
      obtain ⟨z, e0, -, w0⟩ := DataW.trod_int Tryz.underlying5 hc2
      have b0 : 0 ≤ z ∧ z ≤ 255 := by simpa [Lit.wf, IntKind.min, IntKind.max, IntKind.signed, IntKind.bits] using w0
      refine ⟨z, b0.1, by omega, ?_⟩
      rw [hcell 0 (by omega), e0]; rfl
    by_cases h0 : len = 0
    · exact .inl h0
    · obtain ⟨z, -, -, hz0⟩ := one 0 (by omega)
      have hadd : (a'.add (0 * 1)).add 0 = a' := by rw [Nat.zero_mul]; rfl
      rw [hadd] at hz0
      obtain ⟨b, off, spot⟩ := a'
      obtain rfl : spot = none := World.cell?_spot hz0
      refine .inr ⟨b, off, rfl, ?_, ?_⟩
      · rcases Nat.lt_or_ge b W.heap.size with h | h
        · exact h
        · unfold World.cell? at hz0; simp [Array.getElem?_eq_none h] at hz0
      · refine ⟨fun j => match W.cell? ⟨b, off + j, none⟩ with | some (.int .u8 z) => z.toNat | _ => 0, fun j hj => ?_⟩
        obtain ⟨z, z0, z1, hzj⟩ := one j hj
        rw [add_spot6, add_spot6, Nat.mul_one, Nat.add_zero] at hzj
        simp only [hzj]
        exact ⟨by omega, by rw [Int.toNat_of_nonneg z0]⟩
end XRow
end Go.Proofs.YtjnlgaeedcklaaaGreatDoor

namespace Go.Proofs.YtjnlgaeedcklaaaGreatDoor
namespace Xs
open Fs (Bytes)

/-- Blanks and tabs by turns. -/
def altC (i : Nat) : UInt8 := if i % 2 = 0 then 32 else 9
def alt (i m : Nat) : Bytes := (List.range m).map fun k => altC (i + k)
theorem alt_succ (i m : Nat) : alt i (m + 1) = alt i m ++ [altC (i + m)] := by
  unfold alt
  rw [List.range_succ, List.map_append]; rfl
theorem alt_len (i m : Nat) : (alt i m).length = m := by unfold alt; rw [List.length_map, List.length_range]
theorem alt_blank (i m : Nat) : (alt i m).all blank = true := by
  unfold alt
  rw [List.all_eq_true]
  intro c hc
  obtain ⟨k, -, rfl⟩ := List.mem_map.1 hc
  unfold altC
  split <;> rfl
/-- Each word with blanks ahead of it. -/
def pairsB (cnt : Nat → Nat) : Nat → List Bytes → List (Bytes × Bytes)
  | _, [] => []
  | i, t :: ts => (alt i (cnt i), t) :: pairsB cnt (i + 1) ts
theorem pairs_snd (cnt : Nat → Nat) : ∀ (ts : List Bytes) (i : Nat), (pairsB cnt i ts).map Prod.snd = ts := by
  intro ts
  induction ts with
  | nil => intro i; rfl
  | cons t ts ih => intro i; rw [pairsB, List.map_cons, ih]
theorem pairs_blank (cnt : Nat → Nat) : ∀ (ts : List Bytes) (i : Nat), ∀ p ∈ pairsB cnt i ts, p.1.all blank = true := by
  intro ts
  induction ts with
  | nil => intro i p hp; cases hp
  | cons t ts ih =>
    intro i p hp
    rw [pairsB, List.mem_cons] at hp
    rcases hp with rfl | hp
    · exact alt_blank _ _
    · exact ih _ p hp
theorem pairs_ne (cnt : Nat → Nat) : ∀ (ts : List Bytes) (i : Nat), (∀ j, i ≤ j → 1 ≤ cnt j) → ∀ p ∈ pairsB cnt i ts, p.1 ≠ [] := by
  intro ts
  induction ts with
  | nil => intro i _ p hp; cases hp
  | cons t ts ih =>
    intro i h p hp
    rw [pairsB, List.mem_cons] at hp
    rcases hp with rfl | hp
    · intro he
      have h1 := alt_len i (cnt i)
      rw [show alt i (cnt i) = [] from he] at h1
      have h2 := h i (Nat.le_refl _)
      simp at h1
      omega
    · exact ih _ (fun j hj => h j (by omega)) p hp
theorem pairs_at (cnt : Nat → Nat) : ∀ (ts : List Bytes) (i k : Nat) (t : Bytes), ts[k]? = some t → (pairsB cnt i ts)[k]? = some (alt (i + k) (cnt (i + k)), t) := by
  intro ts
  induction ts with
  | nil => intro i k t h; simp at h
  | cons u ts ih =>
    intro i k t h
    rcases k with _ | k
    · simp at h; subst h; rfl
    · rw [List.getElem?_cons_succ] at h
      rw [pairsB, List.getElem?_cons_succ, ih _ k t h, show i + 1 + k = i + (k + 1) from by omega]
theorem pairs_len (cnt : Nat → Nat) (ts : List Bytes) (i : Nat) : (pairsB cnt i ts).length = ts.length := by
  have := congrArg List.length (pairs_snd cnt ts i)
  rwa [List.length_map] at this
theorem spaced_append (a b : List (Bytes × Bytes)) : spaced (a ++ b) = spaced a ++ spaced b := by
  induction a with
  | nil => rfl
  | cons p a ih => obtain ⟨u, v⟩ := p; simp [spaced, ih]
/-- What is written of the first k words. -/
def built (cnt : Nat → Nat) (ts : List Bytes) (k : Nat) : Bytes := spaced ((pairsB cnt 0 ts).take k)
theorem built_zero (cnt : Nat → Nat) (ts : List Bytes) : built cnt ts 0 = [] := rfl
theorem built_succ (cnt : Nat → Nat) {ts : List Bytes} {k : Nat} {t : Bytes} (h : ts[k]? = some t) : built cnt ts (k + 1) = built cnt ts k ++ alt k (cnt k) ++ t := by
  unfold built
  have hp := pairs_at cnt ts 0 k t h
  rw [Nat.zero_add] at hp
  rw [List.take_add_one, hp, spaced_append]
  simp [spaced]
theorem built_all (cnt : Nat → Nat) (ts : List Bytes) : built cnt ts ts.length = spaced (pairsB cnt 0 ts) := by
  unfold built
  rw [List.take_of_length_le (by rw [pairs_len]; exact Nat.le_refl _)]
theorem built_len (cnt : Nat → Nat) (ts : List Bytes) (hc : ∀ i, cnt i ≤ 4) (ht : ∀ t ∈ ts, t.length ≤ 600) : ∀ k, k ≤ ts.length → (built cnt ts k).length ≤ 604 * k := by
  intro k
  induction k with
  | zero => intro _; exact Nat.zero_le _
  | succ k ih =>
    intro h
    obtain ⟨t, he⟩ : ∃ t, ts[k]? = some t := ⟨_, List.getElem?_eq_getElem (by omega)⟩
    have h1 := ih (by omega)
    have h2 := ht t (List.mem_of_getElem? he)
    have h3 := hc k
    rw [built_succ cnt he, List.length_append, List.length_append, alt_len]
    omega
theorem repeat_blanks : ∀ r, (Lib.repeatL [32] r).all blank = true ∧ (Lib.repeatL [32] r).length = r := by
  intro r
  induction r with
  | zero => exact ⟨rfl, rfl⟩
  | succ r ih => exact ⟨by rw [Lib.repeatL, List.all_append, ih.1]; rfl, by rw [Lib.repeatL, List.length_append, ih.2]; simp; omega⟩
end Xs
end Go.Proofs.YtjnlgaeedcklaaaGreatDoor
