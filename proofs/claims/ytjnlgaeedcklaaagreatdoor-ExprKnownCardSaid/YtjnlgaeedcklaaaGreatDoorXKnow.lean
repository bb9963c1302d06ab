/-
  The tables of ExprKnown: texts, and what they are read as. No program in sight but for the cells.
-/
import Derived.Test.YtjnlgaeedcklaaaGreatDoorXWorks
set_option linter.unusedVariables false
set_option linter.unusedSimpArgs false
namespace Go.Proofs.YtjnlgaeedcklaaaGreatDoor
open Go.RowKit

def knT : List (List UInt8 × List UInt8) := [([64, 121, 101, 97, 114, 108, 121], [48, 32, 48, 32, 49, 32, 49, 32, 42]), ([64, 97, 110, 110, 117, 97, 108, 108, 121], [48, 32, 48, 32, 49, 32, 49, 32, 42]), ([64, 109, 111, 110, 116, 104, 108, 121], [48, 32, 48, 32, 49, 32, 42, 32, 42]), ([64, 119, 101, 101, 107, 108, 121], [48, 32, 48, 32, 42, 32, 42, 32, 48]), ([64, 100, 97, 105, 108, 121], [48, 32, 48, 32, 42, 32, 42, 32, 42]), ([64, 109, 105, 100, 110, 105, 103, 104, 116], [48, 32, 48, 32, 42, 32, 42, 32, 42]), ([64, 104, 111, 117, 114, 108, 121], [48, 32, 42, 32, 42, 32, 42, 32, 42]), ([64, 109, 105, 110, 117, 116, 101, 108, 121], [42, 32, 42, 32, 42, 32, 42, 32, 42]), ([64, 115, 101, 99, 111, 110, 100, 108, 121], [42, 32, 42, 32, 42, 32, 42, 32, 42, 32, 42]), ([48, 32, 48, 32, 49, 51, 32, 42, 32, 53], [48, 32, 48, 32, 49, 51, 32, 42, 32, 53]), ([32, 49, 9, 48, 32, 48, 32, 49, 32, 49, 32, 42, 32], [49, 32, 48, 32, 48, 32, 49, 32, 49, 32, 42])]
def knA (k : Nat) : List UInt8 := (knT.getD k ([], [])).1
def knB (k : Nat) : List UInt8 := (knT.getD k ([], [])).2
theorem kn_facts : ∀ k, k < 11 → Xs.normalX KX (knA k) = (knB k, 0, 0) ∧ (Xs.parse KX (knB k)).2 = (0, 0) ∧ ((Xs.mac KX (knA k)).2 = true → (Xs.mac KX (knA k)).1 = (Xs.parse KX (knB k)).1 ∧ (knA k).getD 0 0 = 64) ∧ ((Xs.mac KX (knA k)).2 = false → (Xs.mac KX (knA k)).1 = Xs.Ex.zero ∧ (knA k).getD 0 0 ≠ 64) ∧ 0 < (knA k).length ∧ (knA k).length ≤ 100 ∧ (knB k).length ≤ 100 := by decide +kernel
def knU : List (List UInt8 × Nat × Int) := [([], 0, 10), ([32, 32], 2, 10), ([42, 32, 42, 32, 42, 32, 42], 7, 10), ([48, 32, 50, 52, 32, 42, 32, 42, 32, 42], 2, 2), ([48, 32, 48, 32, 32, 120, 32, 42, 32, 42], 5, 10), ([32, 64, 110, 101, 118, 101, 114], 1, 10), ([64, 100, 97, 105, 108, 121, 32, 120], 8, 10), ([64, 68, 97, 105, 108, 121], 0, 10), ([42, 32, 42, 32, 42, 32, 42, 32, 42, 32, 42, 32, 42], 12, 10), ([54, 49, 32, 48, 32, 120, 32, 42, 32, 42], 0, 2), ([42, 32, 42, 32, 42, 32, 42, 32, 42, 32, 56], 10, 2)]
def knS (k : Nat) : List UInt8 := (knU.getD k ([], 0, 0)).1
theorem kn_wrong : ∀ k, k < 11 → Xs.parse KX (knS k) = (Xs.Ex.zero, (knU.getD k ([], 0, 0)).2.1, (knU.getD k ([], 0, 0)).2.2) ∧ (knS k).length ≤ 100 := by decide +kernel

abbrev knC : Array Value := #[.string ⟨#[64, 121, 101, 97, 114, 108, 121]⟩, .string ⟨#[48, 32, 48, 32, 49, 32, 49, 32, 42]⟩, .string ⟨#[64, 97, 110, 110, 117, 97, 108, 108, 121]⟩, .string ⟨#[48, 32, 48, 32, 49, 32, 49, 32, 42]⟩, .string ⟨#[64, 109, 111, 110, 116, 104, 108, 121]⟩, .string ⟨#[48, 32, 48, 32, 49, 32, 42, 32, 42]⟩, .string ⟨#[64, 119, 101, 101, 107, 108, 121]⟩, .string ⟨#[48, 32, 48, 32, 42, 32, 42, 32, 48]⟩, .string ⟨#[64, 100, 97, 105, 108, 121]⟩, .string ⟨#[48, 32, 48, 32, 42, 32, 42, 32, 42]⟩, .string ⟨#[64, 109, 105, 100, 110, 105, 103, 104, 116]⟩, .string ⟨#[48, 32, 48, 32, 42, 32, 42, 32, 42]⟩, .string ⟨#[64, 104, 111, 117, 114, 108, 121]⟩, .string ⟨#[48, 32, 42, 32, 42, 32, 42, 32, 42]⟩, .string ⟨#[64, 109, 105, 110, 117, 116, 101, 108, 121]⟩, .string ⟨#[42, 32, 42, 32, 42, 32, 42, 32, 42]⟩, .string ⟨#[64, 115, 101, 99, 111, 110, 100, 108, 121]⟩, .string ⟨#[42, 32, 42, 32, 42, 32, 42, 32, 42, 32, 42]⟩, .string ⟨#[48, 32, 48, 32, 49, 51, 32, 42, 32, 53]⟩, .string ⟨#[48, 32, 48, 32, 49, 51, 32, 42, 32, 53]⟩, .string ⟨#[32, 49, 9, 48, 32, 48, 32, 49, 32, 49, 32, 42, 32]⟩, .string ⟨#[49, 32, 48, 32, 48, 32, 49, 32, 49, 32, 42]⟩]
theorem knC_A (k : Nat) (hk : k < 11) : knC[k * 2]? = some (.string (strOf (knA k))) := by
  rcases k with _ | _ | _ | _ | _ | _ | _ | _ | _ | _ | _ | k <;> first | rfl | omega
theorem knC_B (k : Nat) (hk : k < 11) : knC[k * 2 + 1]? = some (.string (strOf (knB k))) := by
  rcases k with _ | _ | _ | _ | _ | _ | _ | _ | _ | _ | _ | k <;> first | rfl | omega
abbrev knD : Array Value := #[.string ⟨#[]⟩, .int .i64 0, .int .i64 10, .string ⟨#[32, 32]⟩, .int .i64 2, .int .i64 10, .string ⟨#[42, 32, 42, 32, 42, 32, 42]⟩, .int .i64 7, .int .i64 10, .string ⟨#[48, 32, 50, 52, 32, 42, 32, 42, 32, 42]⟩, .int .i64 2, .int .i64 2, .string ⟨#[48, 32, 48, 32, 32, 120, 32, 42, 32, 42]⟩, .int .i64 5, .int .i64 10, .string ⟨#[32, 64, 110, 101, 118, 101, 114]⟩, .int .i64 1, .int .i64 10, .string ⟨#[64, 100, 97, 105, 108, 121, 32, 120]⟩, .int .i64 8, .int .i64 10, .string ⟨#[64, 68, 97, 105, 108, 121]⟩, .int .i64 0, .int .i64 10, .string ⟨#[42, 32, 42, 32, 42, 32, 42, 32, 42, 32, 42, 32, 42]⟩, .int .i64 12, .int .i64 10, .string ⟨#[54, 49, 32, 48, 32, 120, 32, 42, 32, 42]⟩, .int .i64 0, .int .i64 2, .string ⟨#[42, 32, 42, 32, 42, 32, 42, 32, 42, 32, 56]⟩, .int .i64 10, .int .i64 2]
theorem knD_S (k : Nat) (hk : k < 11) : knD[k * 3]? = some (.string (strOf (knS k))) ∧ knD[k * 3 + 1]? = some (.int .i64 (knU.getD k ([], 0, 0)).2.1) ∧ knD[k * 3 + 2]? = some (.int .i64 (knU.getD k ([], 0, 0)).2.2) := by
  rcases k with _ | _ | _ | _ | _ | _ | _ | _ | _ | _ | _ | k <;> first | exact ⟨rfl, rfl, rfl⟩ | omega

/-- The first byte of a text. -/
theorem index_zero (l : List UInt8) (h : 0 < l.length) (W : World) : (Instr.index 9 (.string (strOf l)) (.int .i64 0)).run Tryz.prog W = .ok (.int .u8 (l.getD 0 0).toNat) W := by
  obtain ⟨c, r, rfl⟩ : ∃ c r, l = c :: r := by cases l with
    | nil => cases h
    | cons c r => exact ⟨c, r, rfl⟩
  simp [go_sem, strOf]
  rfl
abbrev knG : Xs.Ex := ⟨1152921504606846975, 1152921504606846975, 16777215, 4294967294, 8190, 127, false, false⟩
theorem knG_ok : Xs.checkB KX knG = true := by decide +kernel
/-- What is not valid. -/
def badX : Nat → Xs.Ex
  | 0 => { knG with second := 0 }
  | 1 => { knG with minute := knG.minute ||| 1152921504606846976 }
  | 2 => { knG with hour := knG.hour ||| 16777216 }
  | 3 => { knG with day := knG.day ||| 1 }
  | 4 => { knG with month := 8192 }
  | 5 => { knG with week := knG.week ||| 128 }
  | 6 => { knG with day := 2, anyDay := true }
  | _ => { knG with week := 2, anyWeek := true }
theorem kn_bads : ∀ i, i < 8 → Xs.checkB KX (badX i) = false ∧ (∀ s ∈ (badX i).sets, s < 18446744073709551616) ∧ badX i ≠ knG := by decide +kernel
theorem kn_bad (i : Nat) (hi : i < 8) : Xs.checkB KX (badX i) = false ∧ SmallX (badX i) ∧ badX i ≠ knG :=
  ⟨(kn_bads i hi).1, ⟨fun _ s h => (kn_bads i hi).2.1 s (List.mem_of_getElem? h)⟩, (kn_bads i hi).2.2⟩
structure KnS (w : World) (ca cb : Array Value) (bA bB : Nat) (V : World) : Prop where
  ka : Blk V bA 25 ca
  kb : Blk V bB 25 cb
  bl : Below w.heap.size w V
theorem KnS.grow {w V V' : World} {ca cb : Array Value} {bA bB : Nat} (h : KnS w ca cb bA bB V) (hb : Below V.heap.size V V') : KnS w ca cb bA bB V' :=
  ⟨h.ka.below hb h.ka.lt, h.kb.below hb h.kb.lt, h.bl.trans (hb.mono h.bl.size)⟩
theorem KnS.alloc {w V : World} {ca cb : Array Value} {bA bB : Nat} (h : KnS w ca cb bA bB V) (o : Obj) : KnS w ca cb bA bB (V.alloc o) := ⟨h.ka.alloc _, h.kb.alloc _, h.bl.alloc h.bl.size _⟩
end Go.Proofs.YtjnlgaeedcklaaaGreatDoor
