/-
  What an argument of a statement holds: its cells, one by one; the rows behind its slices; What the row of AuditLines needs: the laid tables; numbers as arguments; the world of the witness.
-/
import Derived.Test.YtphcgfljfknbaaaGreatDoorWK
import Derived.WideShapes
import Derived.ChangeArms
import Derived.DataReads
import Derived.Lib.LaidTab
import Derived.Lib.LaidU8
import Derived.Test.YtphcgfljfknbaaaGreatDoorWL
import Derived.Test.YtphcgfljfknbaaaGreatDoorWG
import Derived.Test.YtphcgfljfknbaaaGreatDoorCards
import Derived.Test.YtphcgfljfknbaaaGreatDoorTie
import Derived.WalkKit
import Derived.ProofKit
import Derived.OpenShut
import Derived.ChangeSame
import Derived.Deep.DeepHandedRow
import Derived.Lib.SmallJoins
import Derived.Stop.LaidErr
import Derived.Lay
import Derived.LaidMore
set_option linter.unusedVariables false
set_option linter.unusedSimpArgs false
set_option linter.unusedVariables false
set_option linter.unusedSimpArgs false
namespace Go.Proofs.YtphcgfljfknbaaaGreatDoor.Vc
open Go.WideShapes Go.RowKit
/-- All of a world as memory that nobody writes. -/
def U64At (m : Mem) (p : Option Addr) (z x : Int) : Prop := cellI m p z = some (.int .u64 x) ∧ IntKind.u64.min ≤ x ∧ x ≤ IntKind.u64.max
def memW (w : World) : Mem := fun b => w.heap[b]?
theorem memW_cell {w : World} {a : Addr} {v : Value} (h : w.cell? a = some v) : memCell (memW w) a = some v := h
/-- The kinds of cells that a type lays out. -/
inductive Lf where
  | i (k : IntKind)
  | b
  | s
  | sl (e : TypeId)
def lfsF (P : Program) (rec : TypeId → Option (List Lf)) : List Field → Nat → Option (List Lf)
  | [], _ => some []
  | f :: fs, o =>
    if f.offset = o then
      match rec f.type with
      | some l => if l.length = P.cellsOf f.type then (match lfsF P rec fs (o + l.length) with | some r => some (l ++ r) | none => none) else none
      | none => none
    else none
def lfsT (P : Program) : Nat → TypeId → Option (List Lf)
  | 0, _ => none
  | n + 1, t =>
    match P.underlying t with
    | some (.int k) => some [.i k]
    | some .bool => some [.b]
    | some .string => some [.s]
    | some (.slice e) => some [.sl e]
    | some (.struct fs) => (match lfsF P (lfsT P n) fs.toList 0 with | some l => if l.length = P.cellsOf t then some l else none | none => none)
    | _ => none
section
variable {H : Type} {enc : TypeId × Value → H} {P : Program} {w : World} {base : Nat} {sp : Nat → Bool} {held : Bool}
/-- What a cell of a kind is. -/
def LfOk (enc : TypeId × Value → H) (P : Program) (w : World) (base : Nat) (sp : Nat → Bool) (held : Bool) : Lf → Value → Prop
  | .i k, v => ∃ n, v = .int k n ∧ (Lit.int k n).wf = true
  | .b, v => ∃ b, v = .bool b
  | .s, v => ∃ s : ByteArray, v = .string s ∧ s.size ≤ maxLen
  | .sl e, v => ∃ a n c, v = .slice a n c ∧ n ≤ c ∧ c ≤ maxLen ∧ ∀ i, i < n → ∃ ad, a = some ad ∧ ∃ cs fuel x, w.cells? base (ad.add (i * P.cellsOf e)) (P.cellsOf e) = some cs ∧ DataW.trod enc P w base sp held fuel e cs = some x
theorem LfOk.one {l : Lf} {v : Value} (h : LfOk enc P w base sp held l v) : oneV v = some v := by
  cases l with
  | i k => obtain ⟨_, rfl, _⟩ := h; rfl
  | b => obtain ⟨_, rfl⟩ := h; rfl
  | s => obtain ⟨_, rfl, _⟩ := h; rfl
  | sl e => obtain ⟨_, _, _, rfl, _⟩ := h; rfl
def LfsOk (enc : TypeId × Value → H) (P : Program) (w : World) (base : Nat) (sp : Nat → Bool) (held : Bool) (ls : List Lf) (cs : List Value) : Prop :=
  cs.length = ls.length ∧ ∀ (i : Nat) (l : Lf), ls[i]? = some l → ∃ v, cs[i]? = some v ∧ LfOk enc P w base sp held l v
theorem LfsOk.single {l : Lf} {v : Value} (h : LfOk enc P w base sp held l v) : LfsOk enc P w base sp held [l] [v] := by
  refine ⟨rfl, fun i l' hl => ?_⟩
  cases i with
  | zero => simp at hl; subst hl; exact ⟨v, rfl, h⟩
  | succ i => simp at hl
theorem lfsF_ok {rec : TypeId → Option (List Lf)} {cs : List Value} : ∀ (fs : List Field) (o : Nat) (r : List Lf), lfsF P rec fs o = some r →
    (∀ f ∈ fs, ∀ l, rec f.type = some l → LfsOk enc P w base sp held l ((cs.drop f.offset).take (P.cellsOf f.type))) →
    ∀ (i : Nat) (l : Lf), r[i]? = some l → ∃ v, cs[o + i]? = some v ∧ LfOk enc P w base sp held l v := by
  intro fs
  induction fs with
  | nil => intro o r h _ i l hl; cases h; simp at hl
  | cons f fs ih =>
    intro o r h hf i l hl
    simp only [lfsF] at h
    split at h
    · rename_i ho
      split at h
      · rename_i l1 hl1
        split at h
        · rename_i hsz
          split at h
          · rename_i r1 hr1
            cases h
            rcases Nat.lt_or_ge i l1.length with hi | hi
            · rw [List.getElem?_append_left hi] at hl
              obtain ⟨v, hv, hok⟩ := (hf f (List.mem_cons_self ..) l1 hl1).2 i l hl
              refine ⟨v, ?_, hok⟩
              rw [List.getElem?_take, if_pos (by omega), List.getElem?_drop, ho] at hv
              exact hv
            · rw [List.getElem?_append_right hi] at hl
              obtain ⟨v, hv, hok⟩ := ih _ _ hr1 (fun g hg => hf g (List.mem_cons_of_mem _ hg)) (i - l1.length) l hl
              refine ⟨v, ?_, hok⟩
              rw [← hv]
              congr 1
              omega
          · cases h
        · cases h
      · cases h
    · cases h
theorem lfs_ok : ∀ (n : Nat) (t : TypeId) (ls : List Lf), lfsT P n t = some ls → ∀ (fuel : Nat) (cs : List Value) (x : DataW H × List MemPlace), DataW.trod enc P w base sp held fuel t cs = some x → LfsOk enc P w base sp held ls cs := by
  intro n
  induction n with
  | zero => intro t ls h; cases h
  | succ n ih =>
    intro t ls h fuel cs x hx
    unfold lfsT at h
    split at h
    · rename_i k ht
      cases h
      obtain ⟨z, rfl, _, hw⟩ := DataW.trod_int ht hx
      exact LfsOk.single ⟨z, rfl, hw⟩
    · rename_i ht
      cases h
      obtain ⟨b, rfl, _⟩ := DataW.trod_bool ht hx
      exact LfsOk.single ⟨b, rfl⟩
    · rename_i ht
      cases h
      obtain ⟨s, rfl, _, hs⟩ := DataW.trod_string ht hx
      exact LfsOk.single ⟨s, rfl, hs⟩
    · rename_i e ht
      cases h
      rcases DataW.trod_slice ht hx with ⟨rfl, _⟩ | ⟨a, len, cap, elems, rest, n', rfl, rfl, _, hb, hl, hm, hel, hel2, _, _⟩
      · exact LfsOk.single ⟨none, 0, 0, rfl, Nat.le_refl _, Nat.zero_le _, fun i hi => by omega⟩
      · refine LfsOk.single ⟨some a, len, cap, rfl, hl, hm, fun i hi => ⟨a, rfl, ?_⟩⟩
        have h1 := hel2 i hi
        rw [List.getElem?_eq_getElem (by omega)] at h1
        obtain ⟨cs', hc1, hc2⟩ := Option.bind_eq_some_iff.1 h1
        exact ⟨cs', n', _, hc1, hc2⟩
    · rename_i fs ht
      obtain ⟨xs, n', rfl, _, hlen, hsz, hf⟩ := DataW.trod_struct ht hx
      split at h
      · rename_i l hfl
        split at h
        · rename_i hlc
          cases h
          refine ⟨by omega, fun i l' hl' => ?_⟩
          have := lfsF_ok (enc := enc) (w := w) (base := base) (sp := sp) (held := held) (cs := cs) fs.toList 0 _ hfl (fun f hfm l1 hl1 => ?_) i l' hl'
          · rw [Nat.zero_add] at this; exact this
          · obtain ⟨j, hj⟩ := List.getElem?_of_mem hfm
            have hjx := hf j f (by simpa using hj)
            have hjl : j < xs.length := by
              rw [hsz]
              have := (List.getElem?_eq_some_iff.1 hj).1
              simpa using this
            rw [List.getElem?_eq_getElem hjl] at hjx
            exact ih _ _ hl1 _ _ _ hjx
        · cases h
      · cases h
    · cases h
/-- The rows behind a slice. -/
theorem LfOk.row {e : TypeId} {v : Value} (h : LfOk enc P w base sp held (.sl e) v) : ∃ a n c, v = .slice a n c ∧ n ≤ c ∧ c ≤ maxLen ∧
    ∀ (k : Nat) (ls : List Lf), lfsT P k e = some ls → ∀ (i : Nat), i < n → ∀ (j : Nat) (l : Lf), ls[j]? = some l → ∃ u, cellI (memW w) a ((i : Int) * (ls.length : Int) + (j : Int)) = some u ∧ LfOk enc P w base sp held l u := by
  obtain ⟨a, n, c, rfl, h1, h2, h3⟩ := h
  refine ⟨a, n, c, rfl, h1, h2, fun k ls hls i hi j l hl => ?_⟩
  obtain ⟨ad, rfl, cs, fuel, x, hc, hx⟩ := h3 i hi
  have ho := lfs_ok k e ls hls _ _ _ hx
  obtain ⟨_, hlen, hcell⟩ := World.cells?_some hc
  obtain ⟨u, hu, huk⟩ := ho.2 j l hl
  refine ⟨u, ?_, huk⟩
  have hj : j < P.cellsOf e := by
    have := (List.getElem?_eq_some_iff.1 hu).1; omega
  have h4 := hcell j hj
  rw [hu, Addr.add_add] at h4
  have := cellI_mk (memW_cell h4) huk.one
  have e1 : P.cellsOf e = ls.length := by rw [← hlen]; exact ho.1
  rw [e1] at this
  have e2 : (i : Int) * (ls.length : Int) + (j : Int) = Int.ofNat (i * ls.length + j) := by
    show _ = ((i * ls.length + j : Nat) : Int)
    rw [Int.natCast_add, Int.natCast_mul]
  rw [e2]; exact this
theorem LfOk.i64 {u : Value} (h : LfOk enc P w base sp held (.i .i64) u) {m : Mem} {p : Option Addr} {z : Int} (hc : cellI m p z = some u) : ∃ x, IntAt m p z x := by
  obtain ⟨x, rfl, hw⟩ := h
  refine ⟨x, hc, ?_⟩
  simpa [Lit.wf] using hw
theorem LfOk.u64 {u : Value} (h : LfOk enc P w base sp held (.i .u64) u) {m : Mem} {p : Option Addr} {z : Int} (hc : cellI m p z = some u) : ∃ x, U64At m p z x := by
  obtain ⟨x, rfl, hw⟩ := h
  refine ⟨x, hc, ?_⟩
  simpa [Lit.wf] using hw
end
theorem list_of {α : Type} {Q : Nat → α → Prop} : ∀ n : Nat, (∀ i, i < n → ∃ x, Q i x) → ∃ l : List α, l.length = n ∧ ∀ (i : Nat) (x : α), l[i]? = some x → Q i x := by
  intro n
  induction n with
  | zero => intro _; exact ⟨[], rfl, fun i x h => by simp at h⟩
  | succ n ih =>
    intro h
    obtain ⟨l, hl, hq⟩ := ih (fun i hi => h i (by omega))
    obtain ⟨x, hx⟩ := h n (by omega)
    refine ⟨l ++ [x], by simp [hl], fun i y hy => ?_⟩
    rcases Nat.lt_trichotomy i n with g | g | g
    · rw [List.getElem?_append_left (by omega)] at hy; exact hq i y hy
    · subst g
      rw [List.getElem?_append_right (by omega), hl, Nat.sub_self] at hy
      simp at hy; subst hy; exact hx
    · rw [List.getElem?_eq_none (by simp [hl]; omega)] at hy; cases hy
theorem valL_bytes : ∀ l : List UInt8, valL (bytesA l) = some (l.map fun b => .int .u8 (Int.ofNat b.toNat)) := by
  intro l
  induction l with
  | nil => rfl
  | cons b l ih => simp only [bytesA, valL, ih, List.map_cons]
/-- A laid variable whose cells are known. -/
theorem glob_of {P : Program} {W : World} {name : String} {g : Nat} {cs : Array Value} {l : List AV} (hg : P.globalNamed name = some g) (h : W.var? P name = some cs) (hl : valL l = some cs.toList) : Globs (memW W) [(g, l)] := by
  unfold World.var? at h
  rw [hg] at h
  simp only [Option.bind_some] at h
  split at h
  · rename_i cs' e fz hb
    cases h
    exact ⟨⟨cs.toList, [], e, fz, hl, by rw [List.append_nil]; exact hb⟩, trivial⟩
  · cases h
end Go.Proofs.YtphcgfljfknbaaaGreatDoor.Vc
set_option linter.unusedVariables false
set_option linter.unusedSimpArgs false
set_option linter.unusedVariables false
set_option linter.unusedSimpArgs false
namespace Go.Proofs.YtphcgfljfknbaaaGreatDoor.VRow
open Go.ChangeShapes Go.WideShapes Go.ChangeAt Go.RowKit Vc
theorem own : ownKnob Tryz.prog.godebug = none := by kernel_rfl
/-- The list of the laid variables. -/
def laidL : List (String × DataW Unit) := Rows.auditLinesRow.laid
structure VTabs (w : World) : Prop where
  sp : Globs (memW w) glSp
  mx : Globs (memW w) glMx
  tm : TM (memW w)
theorem named_sp : Tryz.prog.globalNamed "strings.asciiSpace" = some 0 := by kernel_rfl
theorem types_sp : (Tryz.prog.globals[0]?).map (·.type) = some 37 := by kernel_rfl
theorem cells_sp : Tryz.prog.cellsOf 37 = 256 := by kernel_rfl
theorem cells_u8 : Tryz.prog.cellsOf 5 = 1 := by kernel_rfl
def spZ : List Int := spTab.map fun b => Int.ofNat b.toNat
theorem sp_data : (Rows.laid_strings_asciiSpace : DataW Unit) = Lib.tabData .u8 spZ := by kernel_rfl
theorem sp_of {W : World} (h : Lib.VarReads Tryz.prog W "strings.asciiSpace" Rows.laid_strings_asciiSpace) : Globs (memW W) glSp := by
  obtain ⟨g', t', cs, fuel, p, hg', ht', hvar, hd⟩ := h
  obtain rfl := Option.some.inj (named_sp.symm.trans hg')
  obtain rfl := Option.some.inj (types_sp.symm.trans ht')
  rw [sp_data] at hd
  have hc := Lib.cells_of_tab Tryz.underlying37 Tryz.underlying5 cells_u8 cells_sp hd
  refine glob_of named_sp hvar ?_
  rw [valL_bytes, hc]
  simp [spZ]
theorem named_mx : Tryz.prog.globalNamed "wakeman/mix.steps" = some 6 := by kernel_rfl
theorem types_mx : (Tryz.prog.globals[6]?).map (·.type) = some 270 := by kernel_rfl
theorem trod_lit {fuel : Nat} {W : World} {t : TypeId} {k k' : IntKind} {z : Int} {cs : List Value} {p : List MemPlace} (ht : Tryz.prog.underlying t = some (.int k'))
    (h : DataW.trod (fun _ => ()) Tryz.prog W 0 (fun _ => true) false fuel t cs = some (.lit (.int k z), p)) : cs = [.int k z] := by
  obtain ⟨n, h1, h2, _⟩ := DataW.trod_int ht h
  cases h2; exact h1
set_option maxRecDepth 100000 in
theorem trod_step {fuel : Nat} {W : World} {a b : Int} {cs : List Value} {p : List MemPlace}
    (h : DataW.trod (fun _ => ()) Tryz.prog W 0 (fun _ => true) false fuel 269 cs = some (.agg [.lit (.int .i64 a), .lit (.int .u64 b)], p)) : cs = [.int .i64 a, .int .u64 b] := by
  cases fuel with
  | zero => simp [DataW.trod] at h
  | succ fuel =>
    have hct : Tryz.prog.cellsOf 269 = 2 := by kernel_rfl
    have hc0 : Tryz.prog.cellsOf 3 = 1 := by kernel_rfl
    have hc1 : Tryz.prog.cellsOf 57 = 1 := by kernel_rfl
    simp only [DataW.trod, Tryz.underlying269, hct] at h
    split at h
    · rename_i hl
      obtain ⟨c0, c1, rfl⟩ : ∃ c0 c1, cs = [c0, c1] := by
        match cs, hl with
        | [c0, c1], _ => exact ⟨c0, c1, rfl⟩
      simp only [List.mapM_cons, List.mapM_nil, hc0, hc1, List.drop_zero, List.drop_succ_cons, List.take_succ_cons, List.take_zero, List.take_nil, List.drop_nil] at h
      obtain ⟨xs, hx, he⟩ := Option.map_eq_some_iff.1 h
      simp only [Option.bind_eq_bind, Option.bind_eq_some_iff, Option.pure_def, Option.some.injEq] at hx
      obtain ⟨y0, h0, r0, ⟨y1, h1, r1, rfl, rfl⟩, rfl⟩ := hx
      simp at he
      obtain ⟨⟨e0, e1⟩, _⟩ := he
      have k0 := trod_lit Tryz.underlying3 (h0.trans (by rw [← e0]))
      have k1 := trod_lit Tryz.underlying57 (h1.trans (by rw [← e1]))
      cases k0; cases k1; rfl
    · cases h
set_option maxRecDepth 100000 in
theorem trod_steps {fuel : Nat} {W : World} {cs : List Value} {p : List MemPlace}
    (h : DataW.trod (fun _ => ()) Tryz.prog W 0 (fun _ => true) false fuel 270 cs = some (Rows.laid_wakeman_mix_steps, p)) :
    cs = [.int .i64 30, .int .u64 13787848793156543929, .int .i64 27, .int .u64 10723151780598845931, .int .i64 31, .int .u64 1] := by
  cases fuel with
  | zero => simp [DataW.trod] at h
  | succ fuel =>
    have hct : Tryz.prog.cellsOf 270 = 6 := by kernel_rfl
    have hc0 : Tryz.prog.cellsOf 269 = 2 := by kernel_rfl
    simp only [DataW.trod, Tryz.underlying270, hct, hc0] at h
    split at h
    · rename_i hl
      obtain ⟨c0, c1, c2, c3, c4, c5, rfl⟩ : ∃ c0 c1 c2 c3 c4 c5, cs = [c0, c1, c2, c3, c4, c5] := by
        match cs, hl with
        | [c0, c1, c2, c3, c4, c5], _ => exact ⟨c0, c1, c2, c3, c4, c5, rfl⟩
      have hr : List.range 3 = [0, 1, 2] := by decide
      obtain ⟨xs, hx, he⟩ := Option.map_eq_some_iff.1 h
      rw [hr] at hx
      simp only [List.mapM_cons, List.mapM_nil, Option.bind_eq_bind, Option.bind_eq_some_iff, Option.pure_def, Option.some.injEq] at hx
      obtain ⟨y0, h0, r0, ⟨y1, h1, r1, ⟨y2, h2, r2, rfl, rfl⟩, rfl⟩, rfl⟩ := hx
      simp only [Rows.laid_wakeman_mix_steps, List.map_cons, List.map_nil, Prod.mk.injEq, DataW.agg.injEq, List.cons.injEq, and_true] at he
      obtain ⟨⟨e0, e1, e2⟩, _⟩ := he
      have k0 := trod_step (h0.trans (by rw [← e0]))
      have k1 := trod_step (h1.trans (by rw [← e1]))
      have k2 := trod_step (h2.trans (by rw [← e2]))
      simp at k0 k1 k2
      obtain ⟨rfl, rfl⟩ := k0
      obtain ⟨rfl, rfl⟩ := k1
      obtain ⟨rfl, rfl⟩ := k2
      rfl
    · cases h
theorem mx_of {W : World} (h : Lib.VarReads Tryz.prog W "wakeman/mix.steps" Rows.laid_wakeman_mix_steps) : Globs (memW W) glMx := by
  obtain ⟨g', t', cs, fuel, p, hg', ht', hvar, hd⟩ := h
  obtain rfl := Option.some.inj (named_mx.symm.trans hg')
  obtain rfl := Option.some.inj (types_mx.symm.trans ht')
  have hcs := trod_steps hd
  refine glob_of named_mx hvar ?_
  rw [hcs]; rfl
theorem types_pow : (Tryz.prog.globals[3]?).map (·.type) = some 170 := by kernel_rfl
theorem cells_u64 : Tryz.prog.cellsOf 57 = 1 := by kernel_rfl
theorem cells_pow : Tryz.prog.cellsOf 170 = 20 := by kernel_rfl
theorem cells_str : Tryz.prog.cellsOf 9 = 1 := by kernel_rfl
theorem pow_data : (Rows.laid_internal_strconv_uint64pow10 : DataW Unit) = Lib.tabData .u64 Lib.pow10Tab := by kernel_rfl
theorem types_gw : (Tryz.prog.globals[1]?).map (·.type) = some 51 := by kernel_rfl
theorem named_w : Tryz.prog.globalNamed "wakeman/audit.words" = some 1 := by kernel_rfl
theorem w_data : (Rows.laid_wakeman_audit_words : DataW Unit) = .agg (Fl.words.map fun t => .lit (.string t)) := by kernel_rfl
theorem tab_of_reads {W : World} {name : String} {zs : List Int} {g : Nat} {t e : TypeId} {n : Nat}
    (hg : Tryz.prog.globalNamed name = some g) (hty : (Tryz.prog.globals[g]?).map (·.type) = some t) (ht : Tryz.prog.underlying t = some (.array n e)) (he : Tryz.prog.underlying e = some (.int .u64)) (hce : Tryz.prog.cellsOf e = 1) (hct : Tryz.prog.cellsOf t = n)
    (h : Lib.VarReads Tryz.prog W name (Lib.tabData .u64 zs)) : Lib.TabIs Tryz.prog W name .u64 zs := by
  obtain ⟨g', t', cs, fuel, p, hg', ht', hvar, hd⟩ := h
  obtain rfl := Option.some.inj (hg.symm.trans hg')
  obtain rfl := Option.some.inj (hty.symm.trans ht')
  unfold Lib.TabIs
  rw [hvar, ← Lib.cells_of_tab ht he hce hct hd]
set_option maxRecDepth 100000 in
theorem txt_of {W : World} (h : Lib.VarReads Tryz.prog W "wakeman/audit.words" Rows.laid_wakeman_audit_words) (k : Nat) (t : List UInt8) (hk : Fl.words[k]? = some t) : W.cell? ⟨1, k, none⟩ = some (.string ⟨t.toArray⟩) := by
  obtain ⟨g', t', cs, fuel, p, hg', ht', hvar, hd⟩ := h
  obtain rfl := Option.some.inj (named_w.symm.trans hg')
  obtain rfl := Option.some.inj (types_gw.symm.trans ht')
  rw [w_data] at hd
  have hk7 : k < 8 := by have := (List.getElem?_eq_some_iff.1 hk).1; simpa [Fl.words] using this
  obtain ⟨fuel', d, q, hdk, hq⟩ := Lib.array_elem Tryz.underlying51 hd k hk7
  obtain ⟨s, hs, he, -⟩ := DataW.trod_string Tryz.underlying9 hq
  rw [List.getElem?_map, hk] at hdk
  injection he with he _
  rw [he] at hdk
  injection hdk with hdk
  injection hdk with hdk
  injection hdk with hdk
  rw [cells_str, Nat.mul_one] at hs
  have h1 : cs.toList[k]? = some (.string s) := by
    have := congrArg (·[0]?) hs
    simpa [List.getElem?_take, List.getElem?_drop] using this
  rw [World.var?_cell named_w hvar k, ← Array.getElem?_toList, h1, hdk]
theorem tm_of {W : World} (hp : PowTab W) (hw : WordsV W) : TM (memW W) := fun w h => by
  refine ⟨?_, fun q hq => ?_⟩
  · unfold PowTab Lib.TabIs World.var? at hp ⊢
    obtain ⟨g, hg, hm⟩ := Option.bind_eq_some_iff.1 hp
    rw [hg, Option.bind_some]
    split at hm
    · rename_i hc
      rw [h g _ hc]
      exact hm
    · cases hm
  · obtain ⟨h1, h2⟩ := hw q hq
    exact ⟨memCell_up h h1, (Array.getElem?_eq_some_iff.1 (h _ _ (Array.getElem?_eq_getElem h2))).1⟩
theorem words_of {W : World} (h : Lib.VarReads Tryz.prog W "wakeman/audit.words" Rows.laid_wakeman_audit_words) : WordsV W := by
  intro q hq
  have hc := txt_of h q (Fl.word ((q : Int) + 1)) (by rcases (show q = 0 ∨ q = 1 ∨ q = 2 ∨ q = 3 ∨ q = 4 ∨ q = 5 ∨ q = 6 ∨ q = 7 by omega) with h | h | h | h | h | h | h | h <;> subst h <;> rfl)
  refine ⟨hc, ?_⟩
  rcases Nat.lt_or_ge 1 W.heap.size with h | h
  · exact h
  · unfold World.cell? at hc; simp [Array.getElem?_eq_none h] at hc
theorem tabs_of {W : World} (hL : laidMetH Tryz.prog laidL W) (hS : W.ShapedOpen Tryz.prog) : VTabs W := by
  have hL' : laidMet Tryz.prog laidL W := hL
  refine ⟨sp_of (Lib.laidMet.reads hL' (by repeat' first | exact List.Mem.head _ | apply List.Mem.tail)), mx_of (Lib.laidMet.reads hL' (by repeat' first | exact List.Mem.head _ | apply List.Mem.tail)), tm_of ?_ ?_⟩
  · exact tab_of_reads named_pow types_pow Tryz.underlying170 Tryz.underlying57 cells_u64 cells_pow (pow_data ▸ Lib.laidMet.reads hL' (by repeat' first | exact List.Mem.head _ | apply List.Mem.tail))
  · exact words_of (Lib.laidMet.reads hL' (by repeat' first | exact List.Mem.head _ | apply List.Mem.tail))
theorem wit_shaped (os : Os) (args : Array Value) : ((World.laidAll Tryz.prog os laidL).forCall (fun _ _ => 0) ⟨#[], args, []⟩).Shaped Tryz.prog :=
  World.shaped_of_ZipB (by kernel_rfl) (by kernel_rfl)
theorem wit_laid (os : Os) (args : Array Value) : laidMetH Tryz.prog laidL ((World.laidAll Tryz.prog os laidL).forCall (fun _ _ => 0) ⟨#[], args, []⟩).memory := by
  rw [MakeChecks.laidMetH_plain _ _ _ (by kernel_rfl)]
  exact laidMet_laidAll _ (by kernel_rfl) (by kernel_rfl)
section
variable {H : Type} {enc : TypeId × Value → H} {w : World} {base : Nat} {sp : Nat → Bool} {held : Bool}
theorem lfs_u16 : lfsT Tryz.prog 3 24 = some [.i .u16] := by kernel_rfl
theorem lfs_u16s : lfsT Tryz.prog 3 22 = some [.sl 24] := by kernel_rfl
set_option maxRecDepth 100000 in
theorem open_u16s {v : Value} {d : DataW H} {p : List MemPlace} (hv : Value.okWide Tryz.prog w .any base 22 v) (h : DataW.Trod enc Tryz.prog w 0 sp held 22 v d p) :
    ∃ a n c, v = .slice a n c ∧ n ≤ c ∧ c ≤ maxLen ∧ ∃ l, U16At (memW w) a n l := by
  obtain ⟨a, len, cap, rfl⟩ := Go.WideShapes.okWide_slice Tryz.underlying22 hv
  obtain ⟨fuel, hf⟩ := h
  obtain ⟨u, hu, hk⟩ := (lfs_ok _ _ _ lfs_u16s _ _ _ hf).2 0 _ rfl
  simp [Value.cells] at hu
  subst hu
  obtain ⟨a', n', c', he, h1, h2, h3⟩ := hk.row
  cases he
  refine ⟨a, len, cap, rfl, h1, h2, ?_⟩
  have g := h3 3 _ lfs_u16
  obtain ⟨l, hl, hq⟩ := list_of (Q := fun i x => cellI (memW w) a (i : Int) = some (.int .u16 x) ∧ u16In x) len (fun i hi => by
    obtain ⟨u, hu, x, rfl, hw⟩ := g i hi 0 _ rfl
    have hk : IntKind.u16.min ≤ x ∧ x ≤ IntKind.u16.max := by simpa [Lit.wf] using hw
    exact ⟨x, by simpa using hu, hk⟩)
  exact ⟨l, hl, hq⟩
end
end Go.Proofs.YtphcgfljfknbaaaGreatDoor.VRow
