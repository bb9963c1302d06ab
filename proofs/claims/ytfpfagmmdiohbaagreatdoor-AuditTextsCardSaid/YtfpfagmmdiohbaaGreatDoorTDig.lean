/-
  A number's text, as the document has it: the digits from behind.
-/
import Derived.Test.YtfpfagmmdiohbaaGreatDoorTBuild
import Derived.WalkSpells
import Derived.BigQuiet
import Derived.Lib.Hide
import Derived.Laws.BytesString
import Derived.Laws.Cells
import Derived.Laws.NewBlocks
import Derived.Laws.OwnMore
import Derived.Laws.Rows
import Derived.Below
set_option linter.unusedVariables false
set_option linter.unusedSimpArgs false
namespace Go.Proofs.YtfpfagmmdiohbaaGreatDoor
open Go.RowKit

theorem conv_one (W : World) (v : Int) : (convert 40 9 (.slice (some ⟨W.heap.size, 0, none⟩) 1 1)).run Tryz.prog (W.alloc (.cells #[.int .u8 v] 5)) =
    .ok (.string ⟨#[UInt8.ofNat v.toNat]⟩) (W.alloc (.cells #[.int .u8 v] 5)) := by
  rw [run_convert_bytes_string _ 40 9 5 _ _ _ Tryz.underlying40 Tryz.underlying5 Tryz.underlying9]
  rw [run_bytesToString _ _ 1 1 [v] (by
    have := run_loadCells_list (P := Tryz.prog) (w := W.alloc (.cells #[.int .u8 v] 5)) ⟨W.heap.size, 0, none⟩ [.int .u8 v] (fun j u hj => by
      rcases j with _ | j
      · simp at hj; subst hj; go_simp
      · simp at hj)
    simpa using this)]
  rfl

def preD (u : Nat) : List UInt8 := if u = 0 then [] else Lib.decDigits u
theorem dec_step (u : Nat) (h : u ≠ 0) : Lib.decDigits u = preD (u / 10) ++ [UInt8.ofNat (48 + u % 10)] := by
  rw [Lib.decDigits]
  split
  · rename_i hu
    have : u / 10 = 0 := by omega
    rw [this, show u % 10 = u by omega]; rfl
  · rename_i hu
    rw [preD, if_neg (by omega)]
theorem dec_zero : Lib.decDigits 0 = [48] := by rw [Lib.decDigits]; rfl

theorem dec_len (u : Nat) : (Lib.decDigits u).length ≤ u / 10 + 2 := by
  induction u using Nat.strongRecOn with
  | ind u ih =>
    rw [Lib.decDigits]
    split
    · simp
    · rename_i hu
      rw [List.length_append]
      have := ih (u / 10) (by omega)
      simp only [List.length_singleton]
      omega
theorem dec_len10 : ∀ k u : Nat, u < 10 ^ (k + 1) → (Lib.decDigits u).length ≤ k + 1
  | 0, u, h => by
    rw [Lib.decDigits, dif_pos (by simpa using h)]; simp
  | k + 1, u, h => by
    rw [Lib.decDigits]
    split
    · simp
    · have := dec_len10 k (u / 10) (by rw [Nat.pow_succ] at h; omega)
      rw [List.length_append]; simp only [List.length_singleton]; omega
theorem dec_ne (u : Nat) : Lib.decDigits u ≠ [] := by
  rw [Lib.decDigits]
  split <;> simp
def natV : Value → Nat
  | .int _ i => i.natAbs
  | _ => 0
def lenV : Value → Nat
  | .string s => if s.data.size = 0 then 1 else 0
  | _ => 0
def DigL (u : Nat) (sg : Int) (w : World) (s k : Value) (wr : World) : Prop :=
  ∃ (m : Nat) (l : List UInt8), s = .string ⟨l.toArray⟩ ∧ k = .int .i64 (sg * m) ∧ m ≤ u ∧ Below w.heap.size w wr ∧ ((l = [] ∧ m = u) ∨ (l ≠ [] ∧ preD m ++ l = Lib.decDigits u))

set_option maxRecDepth 100000 in
set_option maxHeartbeats 1000000 in
theorem ref_Digits_pos (u : Nat) (hu : u ≤ 9223372036854775807) (w : World) :
    Calls Tryz.prog 49 #[.int .i64 u] w fun e w' => e = .returned (.string ⟨(Lib.decDigits u).toArray⟩) ∧ Below w.heap.size w w' := by
  have hcv := conv_one
  go_enter Tryz.func49, Tryz.ntmps49
  go_wp2
  go_loopw [3, 4] (fun s k wr => DigL u 1 w s k wr) (fun s k _ => natV k + lenV s)
  case atStart => exact ⟨u, [], rfl, by rw [Int.one_mul], Nat.le_refl _, Below.refl _ _, .inl ⟨rfl, rfl⟩⟩
  case round =>
    obtain ⟨m, l, rfl, rfl, hmu, hb, hl⟩ := hrel
    rw [Int.one_mul]
    have Hl := Lib.hid hl; clear hl
    have Hb := Lib.hid hb; clear hb
    have hlen : l.length ≤ 922337203685477585 := by
      rcases Hl.out with ⟨e, _⟩ | ⟨_, e⟩
      · subst e; simp
      · have := dec_len u; rw [← e, List.length_append] at this; omega
    have hmx : ¬ 9223372036854775807 < 1 + l.length := by omega
    by_cases hm : m = 0
    · subst hm
      cases l with
      | nil =>
        go_wp2
        go_roundw
        case rel =>
          refine ⟨0, [48], ?_, by simp, Nat.zero_le _, Hb.out.alloc Hb.out.size _, .inr ⟨by simp, ?_⟩⟩
          · rfl
          · rcases Hl.out with ⟨_, e⟩ | ⟨e, _⟩
            · subst e; rw [dec_zero]; rfl
            · exact (e rfl).elim
        case measure => simp [natV, lenV]
      | cons c t =>
        have e : c :: t = Lib.decDigits u := by
          rcases Hl.out with ⟨e, _⟩ | ⟨_, e⟩
          · cases e
          · exact e
        have E := Lib.hid e; clear e
        go_wp2
        go_ret
        exact ⟨by rw [← E.out]; rfl, Hb.out⟩
    · have hm0 : ((m : Int) ≠ 0) := by omega
      go_wp2
      go_roundw
      case rel =>
        refine ⟨m / 10, UInt8.ofNat (48 + m % 10) :: l, ?_, by simp, by omega, Hb.out.alloc Hb.out.size _, .inr ⟨by simp, ?_⟩⟩
        · have e : 48 + UInt8.ofNat (m % 10) = UInt8.ofNat (48 + m % 10) := by rw [UInt8.ofNat_add]; rfl
          rw [e]; rfl
        · have e : preD m ++ l = Lib.decDigits u := by
            rcases Hl.out with ⟨e1, e2⟩ | ⟨_, e⟩
            · subst e1; subst e2; rw [preD, if_neg hm, List.append_nil]
            · exact e
          rw [← e, show preD m = preD (m / 10) ++ [UInt8.ofNat (48 + m % 10)] from (by rw [preD, if_neg hm, dec_step m hm])]
          simp
      case measure =>
        simp only [natV, lenV]
        have h1 : ((m : Int) / 10).natAbs = m / 10 := by omega
        have h2 : (m : Int).natAbs = m := by omega
        have h3 : ({ data := #[48 + UInt8.ofNat (m % 10)] } ++ { data := l.toArray } : ByteArray).data.size ≠ 0 := by simp
        rw [h1, h2, if_neg h3]
        omega
end Go.Proofs.YtfpfagmmdiohbaaGreatDoor
