/-
  Contracts, by their trees; AuditWindows: the walk, the row, the card.
-/
import Derived.Test.YtfpfagmmdiohbaaGreatDoorWO
import Derived.Test.YtfpfagmmdiohbaaGreatDoorWQ
import Derived.Test.YtfpfagmmdiohbaaGreatDoorWR
set_option linter.unusedVariables false
set_option linter.unusedSimpArgs false
set_option linter.unusedVariables false
set_option linter.unusedSimpArgs false
namespace Go.Proofs.YtfpfagmmdiohbaaGreatDoor.Vc
open As
def jobCells (J : JobR) : List Value := [.string ⟨J.name.toArray⟩, .int .i64 J.k, .int .u64 J.a, .int .u64 J.b, .int .u64 J.c, .int .u64 J.d, .int .u64 J.e, .int .u64 J.f, .bool J.x, .bool J.y, .int .i64 J.z, .int .i64 J.s, .int .i64 J.t, .int .i64 J.u, .slice none 0 0, .int .i64 J.pol.cap, .int .i64 J.pol.prio, .int .i64 J.pol.splay, .int .i64 J.pol.dead, .int .i64 J.pol.mis, .int .i64 J.pol.keep, .int .i64 J.pol.lim.t, .int .i64 J.pol.lim.tau, .int .i64 J.pol.brk.fails, .int .i64 J.pol.brk.open_, .int .i64 J.pol.brk.probes, .int .i64 J.pol.ret.max_, .int .i64 J.pol.ret.base, .int .i64 J.pol.ret.cap, .int .i64 J.pol.ret.jit]
abbrev Ku (z : Int) : Prop := IntKind.u64.min ≤ z ∧ z ≤ IntKind.u64.max
/-- A job that can be written: all its numbers are in range; nothing is skipped. -/
structure JobOk (J : JobR) : Prop where
  name : J.name.length ≤ 9223372036854775807
  k : K.i64 J.k
  a : Ku J.a
  b : Ku J.b
  c : Ku J.c
  d : Ku J.d
  e : Ku J.e
  f : Ku J.f
  z : K.i64 J.z
  s : K.i64 J.s
  t : K.i64 J.t
  u : K.i64 J.u
  skip : J.skip = []
  cap : K.i64 J.pol.cap
  prio : K.i64 J.pol.prio
  splay : K.i64 J.pol.splay
  dead : K.i64 J.pol.dead
  mis : K.i64 J.pol.mis
  keep : K.i64 J.pol.keep
  lt : K.i64 J.pol.lim.t
  ltau : K.i64 J.pol.lim.tau
  bf : K.i64 J.pol.brk.fails
  bo : K.i64 J.pol.brk.open_
  bp : K.i64 J.pol.brk.probes
  rm : K.i64 J.pol.ret.max_
  rb : K.i64 J.pol.ret.base
  rc : K.i64 J.pol.ret.cap
  rj : K.i64 J.pol.ret.jit
theorem jobCells_one {J : JobR} {j : Nat} {v : Value} (h : (jobCells J)[j]? = some v) : oneV v = some v := by
  have : ∀ v ∈ jobCells J, oneV v = some v := by simp [jobCells, oneV]
  exact this v (List.mem_of_getElem? h)
theorem jobAt_row {m : Mem} {q : Addr} {z : Int} {J : JobR} (h : ∀ (j : Nat) (v : Value), (jobCells J)[j]? = some v → cellI m (some q) (z + (j : Int)) = some v) (k : JobOk J) : JobAt m (some q) z J := by
  refine ⟨hasI_of (by omega) fun j hj => ⟨_, h j _ (List.getElem?_eq_getElem (by show j < 30; exact hj))⟩, ⟨cellI_to (h 0 _ rfl) (by omega), k.name⟩,
    ⟨⟨h 1 _ rfl, k.k⟩, ⟨h 2 _ rfl, k.a⟩, ⟨h 3 _ rfl, k.b⟩, ⟨h 4 _ rfl, k.c⟩, ⟨h 5 _ rfl, k.d⟩, ⟨h 6 _ rfl, k.e⟩, ⟨h 7 _ rfl, k.f⟩, h 8 _ rfl, h 9 _ rfl, ⟨h 10 _ rfl, k.z⟩, ⟨h 11 _ rfl, k.s⟩, ⟨h 12 _ rfl, k.t⟩, ⟨h 13 _ rfl, k.u⟩, none, 0, 0, h 14 _ rfl, ⟨by omega, by omega⟩, by rw [k.skip]; exact ⟨rfl, fun i a b e => by simp at e⟩⟩,
    ⟨h 15 _ rfl, k.cap⟩, ⟨h 16 _ rfl, k.prio⟩, ⟨h 17 _ rfl, k.splay⟩, ⟨h 18 _ rfl, k.dead⟩, ⟨h 19 _ rfl, k.mis⟩, ⟨h 20 _ rfl, k.keep⟩, ⟨h 21 _ rfl, k.lt⟩, ⟨h 22 _ rfl, k.ltau⟩, ⟨h 23 _ rfl, k.bf⟩, ⟨h 24 _ rfl, k.bo⟩, ⟨h 25 _ rfl, k.bp⟩, ⟨h 26 _ rfl, k.rm⟩, ⟨h 27 _ rfl, k.rb⟩, ⟨h 28 _ rfl, k.rc⟩, ⟨h 29 _ rfl, k.rj⟩⟩
theorem jobs_row2 {m : Mem} {q : Addr} {J T : JobR} (h : RowAt m (some q) (jobCells J ++ jobCells T)) (k : JobOk J) (k' : JobOk T) : JobsAt m (some q) 2 [J, T] := by
  refine ⟨rfl, fun i X hX => ?_⟩
  have hl : (jobCells J).length = 30 := rfl
  match i, hX with
  | 0, hX =>
    cases hX
    refine jobAt_row (fun j v hv => ?_) k
    have hj := (List.getElem?_eq_some_iff.1 hv).1
    exact cellI_to (rowAt_cell h (j := j) (by rw [List.getElem?_append_left hj]; exact hv) (jobCells_one hv)) (by omega)
  | 1, hX =>
    cases hX
    refine jobAt_row (fun j v hv => ?_) k'
    exact cellI_to (rowAt_cell h (j := 30 + j) (by rw [List.getElem?_append_right (by omega), hl, show 30 + j - 30 = j by omega]; exact hv) (jobCells_one hv)) (by omega)
  | i + 2, hX => simp at hX
set_option maxRecDepth 20000 in
theorem jobW_ok {c : UInt8} {t u : Int} (h : LimW t u) : JobOk (jobW c t u) := by
  obtain ⟨⟨h1, h2⟩, ⟨h3, h4⟩, _⟩ := h
  constructor
  case name => show 1 ≤ _; omega
  case skip => rfl
  case lt => exact k64 (by show _ ≤ t; omega) (by show t ≤ _; omega)
  case ltau => exact k64 (by show _ ≤ u; omega) (by show u ≤ _; omega)
  case cap => exact k64 (by show (-9223372036854775808 : Int) ≤ 1000; omega) (by show (1000 : Int) ≤ _; omega)
  all_goals first | exact (show K.i64 0 by constructor <;> decide) | exact (show Ku 0 by constructor <;> decide)
theorem evs_take {m : Mem} {p : Option Addr} {n k : Nat} {l : List Ev} (h : EvsAt m p n l) (hk : k ≤ n) : EvsAt m p k (l.take k) := by
  have hn := h.1
  refine ⟨by rw [List.length_take]; omega, fun i x hx => h.2 i x ?_⟩
  have hi := (List.getElem?_eq_some_iff.1 hx).1
  rw [List.length_take] at hi
  rwa [List.getElem?_take_of_lt (by omega)] at hx
theorem flRow_gt (k : Int) : ∀ (I : List Nat) (i j : Nat), I[i]? = some j → (flRow k I)[2 * i]? = some (.int .i64 k) ∧ (flRow k I)[2 * i + 1]? = some (.int .i64 (j : Int)) := by
  intro I
  induction I with
  | nil => intro i j h; simp at h
  | cons x I ih =>
    intro i j h
    cases i with
    | zero => simp at h; subst h; exact ⟨rfl, rfl⟩
    | succ i =>
      obtain ⟨h1, h2⟩ := ih i j (by simpa using h)
      rw [show 2 * (i + 1) = 2 * i + 1 + 1 by omega]
      exact ⟨h1, h2⟩
def lim1_pre (x y : Int) (m : Mem) : Prop := True
def lim1_post (x y : Int) (m : Mem) (t u : Int) : Prop := LimW t u
def lim1 : Sp := { args := [.i .u8, .i .u8], grp := [some 2], res := [.i .i64, .i .i64], rgrp := [some 2], fn := 14, spec := fun a0 a1 => (lim1_pre a0 a1, lim1_post a0 a1) }
set_option maxRecDepth 20000 in
def lim1_VC : Prop := ∀ m : Mem, ∀ x0 : Int, IntKind.u8.min ≤ x0 → x0 ≤ IntKind.u8.max → ∀ x1 : Int, IntKind.u8.min ≤ x1 → x1 ≤ IntKind.u8.max → lim1_pre x0 x1 m →
 (arithP BinOp.rem 32 ∧ ∀ x2 : Int, x2 = arithV BinOp.rem IntKind.u8 x0 32 → (K.u8 x2) ∧ (arithP BinOp.rem 64 ∧ ∀ x3 : Int, x3 = arithV BinOp.rem IntKind.u8 x1 64 → (K.u8 x3) ∧ ((x2 = 0 →
 ((K.i64 x2) ∧ (K.i64 0) ∧ lim1_post x0 x1 m x2 0)) ∧
 (x2 ≠ 0 →
 ((K.i64 x2) ∧ (K.i64 x3) ∧ lim1_post x0 x1 m x2 x3)))))
set_option maxRecDepth 20000 in
set_option maxHeartbeats 4000000 in
theorem lim1_vc : lim1_VC := by
  intro m x0 a0 b0 x1 a1 b1 _
  have a0 : (0 : Int) ≤ x0 := a0
  have a1 : (0 : Int) ≤ x1 := a1
  refine ⟨(by show (32 : Int) ≠ 0; decide), fun x2 hx2 => ?_⟩
  rw [rem_at a0] at hx2
  refine ⟨⟨by show (0 : Int) ≤ x2; omega, by show x2 ≤ 255; omega⟩, (by show (64 : Int) ≠ 0; decide), fun x3 hx3 => ?_⟩
  rw [rem_at a1] at hx3
  refine ⟨⟨by show (0 : Int) ≤ x3; omega, by show x3 ≤ 255; omega⟩, fun h => ⟨k64 (by omega) (by omega), by constructor <;> decide, ⟨by omega, by omega⟩, ⟨by omega, by omega⟩, fun _ => rfl⟩, fun h => ⟨k64 (by omega) (by omega), k64 (by omega) (by omega), ⟨by omega, by omega⟩, ⟨by omega, by omega⟩, fun g => (h g).elim⟩⟩
set_option maxRecDepth 20000 in
theorem lim1_ok : SpOk Tryz.prog lim1 :=
  con_ok (sps_of [] trivial rfl) (tab_ok _ []) 1000 lim1 _ rfl rfl (Eq.mp (show lim1_VC = _ by kernel_rfl) lim1_vc)
def lWin_pre (p : Option Addr) (n c : Nat) (x2 x3 x4 x5 x6 x7 : Int) (m : Mem) : Prop := (Globs m glSp ∧ Globs m glMx) ∧ n ≤ c ∧ ∃ l, BytesAt m p n l
def lWin_post (p : Option Addr) (n c : Nat) (x2 x3 x4 x5 x6 x7 : Int) (m : Mem) (b : Bool) : Prop := b = true
def lWin : Sp := { args := [.sl, .i .u8, .i .u8, .i .u8, .i .u8, .i .u8, .i .u8], grp := [none, some 2, some 2, some 2], res := [.b], rgrp := [none], fn := 4, spec := fun a0 a1 a2 a3 a4 a5 a6 a7 a8 => (lWin_pre a0 a1 a2 a3 a4 a5 a6 a7 a8, lWin_post a0 a1 a2 a3 a4 a5 a6 a7 a8) }
set_option maxRecDepth 20000 in
def lWin_VC : Prop := ∀ m : Mem, ∀ (p0 : Option Addr) (n0 c0 : Nat), n0 ≤ 9223372036854775807 → c0 ≤ 9223372036854775807 → ∀ x2 : Int, IntKind.u8.min ≤ x2 → x2 ≤ IntKind.u8.max → ∀ x3 : Int, IntKind.u8.min ≤ x3 → x3 ≤ IntKind.u8.max → ∀ x4 : Int, IntKind.u8.min ≤ x4 → x4 ≤ IntKind.u8.max → ∀ x5 : Int, IntKind.u8.min ≤ x5 → x5 ≤ IntKind.u8.max → ∀ x6 : Int, IntKind.u8.min ≤ x6 → x6 ≤ IntKind.u8.max → ∀ x7 : Int, IntKind.u8.min ≤ x7 → x7 ≤ IntKind.u8.max → lWin_pre p0 n0 c0 x2 x3 x4 x5 x6 x7 m →
 (lim1_pre x4 x5 m ∧ ∀ m1 : Mem, MemSub m m1 → ∀ x8 : Int, IntKind.i64.min ≤ x8 → x8 ≤ IntKind.i64.max → ∀ x9 : Int, IntKind.i64.min ≤ x9 → x9 ≤ IntKind.i64.max → lim1_post x4 x5 m1 x8 x9 →
 (lim1_pre x6 x7 m1 ∧ ∀ m2 : Mem, MemSub m1 m2 → ∀ x10 : Int, IntKind.i64.min ≤ x10 → x10 ≤ IntKind.i64.max → ∀ x11 : Int, IntKind.i64.min ≤ x11 → x11 ≤ IntKind.i64.max → lim1_post x6 x7 m2 x10 x11 →
 (lim1_pre x2 x3 m2 ∧ ∀ m3 : Mem, MemSub m2 m3 → ∀ x12 : Int, IntKind.i64.min ≤ x12 → x12 ≤ IntKind.i64.max → ∀ x13 : Int, IntKind.i64.min ≤ x13 → x13 ≤ IntKind.i64.max → lim1_post x2 x3 m3 x12 x13 →
 ((n0 ≤ 9223372036854775807 ∧ c0 ≤ 9223372036854775807) ∧ lnch_pre (p0.map fun p => p.add 0) n0 c0 m3 ∧ ∀ m4 : Mem, MemSub m3 m4 → ∀ (p1 : Option Addr) (n1 c1 : Nat), n1 ≤ 9223372036854775807 → c1 ≤ 9223372036854775807 → lnch_post (p0.map fun p => p.add 0) n0 c0 m4 p1 n1 c1 →
 (∀ (p2 : Addr) (c2 : Nat) (m5 : Mem), MemSub m4 m5 → RowAt m5 (some p2) [(Value.string ⟨List.toArray ([97] : List UInt8)⟩), (Value.int IntKind.i64 0), (Value.int IntKind.u64 0), (Value.int IntKind.u64 0), (Value.int IntKind.u64 0), (Value.int IntKind.u64 0), (Value.int IntKind.u64 0), (Value.int IntKind.u64 0), (Value.bool false), (Value.bool false), (Value.int IntKind.i64 0), (Value.int IntKind.i64 0), (Value.int IntKind.i64 0), (Value.int IntKind.i64 0), (Value.slice none 0 0), (Value.int IntKind.i64 1000), (Value.int IntKind.i64 0), (Value.int IntKind.i64 0), (Value.int IntKind.i64 0), (Value.int IntKind.i64 0), (Value.int IntKind.i64 0), (Value.int IntKind.i64 x8), (Value.int IntKind.i64 x9), (Value.int IntKind.i64 0), (Value.int IntKind.i64 0), (Value.int IntKind.i64 0), (Value.int IntKind.i64 0), (Value.int IntKind.i64 0), (Value.int IntKind.i64 0), (Value.int IntKind.i64 0), (Value.string ⟨List.toArray ([98] : List UInt8)⟩), (Value.int IntKind.i64 0), (Value.int IntKind.u64 0), (Value.int IntKind.u64 0), (Value.int IntKind.u64 0), (Value.int IntKind.u64 0), (Value.int IntKind.u64 0), (Value.int IntKind.u64 0), (Value.bool false), (Value.bool false), (Value.int IntKind.i64 0), (Value.int IntKind.i64 0), (Value.int IntKind.i64 0), (Value.int IntKind.i64 0), (Value.slice none 0 0), (Value.int IntKind.i64 1000), (Value.int IntKind.i64 0), (Value.int IntKind.i64 0), (Value.int IntKind.i64 0), (Value.int IntKind.i64 0), (Value.int IntKind.i64 0), (Value.int IntKind.i64 x10), (Value.int IntKind.i64 x11), (Value.int IntKind.i64 0), (Value.int IntKind.i64 0), (Value.int IntKind.i64 0), (Value.int IntKind.i64 0), (Value.int IntKind.i64 0), (Value.int IntKind.i64 0), (Value.int IntKind.i64 0)] → c2 ≤ 9223372036854775807 → ((2 ≤ 9223372036854775807 ∧ c2 ≤ 9223372036854775807) ∧ (n1 ≤ 9223372036854775807 ∧ c1 ≤ 9223372036854775807) ∧ aRat_pre 1000 10 10 60 0 x12 x13 ((some p2).map fun p => p.add 0) 2 c2 (p1.map fun p => p.add 0) n1 c1 m5 ∧ ∀ m6 : Mem, MemSub m5 m6 → ∀ (p3 : Option Addr) (n3 c3 : Nat), n3 ≤ 9223372036854775807 → c3 ≤ 9223372036854775807 → ∀ x19 : Int, IntKind.i64.min ≤ x19 → x19 ≤ IntKind.i64.max → aRat_post 1000 10 10 60 0 x12 x13 ((some p2).map fun p => p.add 0) 2 c2 (p1.map fun p => p.add 0) n1 c1 m6 p3 n3 c3 x19 →
 ((x19 ≠ 0 →
 (lWin_post p0 n0 c0 x2 x3 x4 x5 x6 x7 m6 false)) ∧
 (x19 = 0 →
 ((n1 ≤ 9223372036854775807 ∧ c1 ≤ 9223372036854775807) ∧ sprd_pre (p1.map fun p => p.add 0) n1 c1 (-1 : Int) x12 x13 m6 ∧ ∀ m7 : Mem, MemSub m6 m7 → ∀ b0 : Bool, sprd_post (p1.map fun p => p.add 0) n1 c1 (-1 : Int) x12 x13 m7 b0 →
 ((b0 = true →
 ((n1 ≤ 9223372036854775807 ∧ c1 ≤ 9223372036854775807) ∧ sprd_pre (p1.map fun p => p.add 0) n1 c1 0 x8 x9 m7 ∧ ∀ m8 : Mem, MemSub m7 m8 → ∀ b1 : Bool, sprd_post (p1.map fun p => p.add 0) n1 c1 0 x8 x9 m8 b1 →
 ((b1 = true →
 ((n1 ≤ 9223372036854775807 ∧ c1 ≤ 9223372036854775807) ∧ sprd_pre (p1.map fun p => p.add 0) n1 c1 1 x10 x11 m8 ∧ ∀ m9 : Mem, MemSub m8 m9 → ∀ b2 : Bool, sprd_post (p1.map fun p => p.add 0) n1 c1 1 x10 x11 m9 b2 →
 ((((b2 = true → (n3 : Int) = 0) → ((n3 : Int) = 0 ∧ b2 = false)) →
 (lWin_post p0 n0 c0 x2 x3 x4 x5 x6 x7 m9 false)) ∧
 (((b2 = true → (n3 : Int) = 0) ∧ ((n3 : Int) = 0 → b2 = true)) →
 (∃ F10 : Bool → Int → Int → Prop × Nat, ((K.i64 (-1 : Int)) ∧ (K.i64 0) ∧ (F10 false (-1 : Int) 0).1) ∧
 ∀ b3 : Bool, ∀ x20 : Int, IntKind.i64.min ≤ x20 → x20 ≤ IntKind.i64.max → ∀ x21 : Int, IntKind.i64.min ≤ x21 → x21 ≤ IntKind.i64.max → (F10 b3 x20 x21).1 →
 ((x21 < (n3 : Int) →
 (0 ≤ x21 ∧ (p3 ≠ none ∧ (HasI m9 p3 (0 + (x21 * 2)) 2 ∧ (∃ x22 : Int, cellI m9 p3 (0 + (x21 * 2)) = some (Value.int IntKind.i64 x22) ∧ (K.i64 x22) ∧ ((x22 ≠ 3 →
 (lWin_post p0 n0 c0 x2 x3 x4 x5 x6 x7 m9 false)) ∧
 (x22 = 3 →
 (∃ x23 : Int, cellI m9 p3 ((0 + (x21 * 2)) + 1) = some (Value.int IntKind.i64 x23) ∧ (K.i64 x23) ∧ ((x23 ≤ x20 →
 (lWin_post p0 n0 c0 x2 x3 x4 x5 x6 x7 m9 false)) ∧
 (x20 < x23 →
 (((n1 : Int) ≤ x23 →
 (lWin_post p0 n0 c0 x2 x3 x4 x5 x6 x7 m9 false)) ∧
 (x23 < (n1 : Int) →
 ((x21 + 1) ≤ 9223372036854775807 ∧ ((K.i64 x23) ∧ (IntKind.i64.min ≤ (x21 + 1) ∧ (x21 + 1) ≤ IntKind.i64.max) ∧ ((F10 b3 x23 (x21 + 1)).1 ∧ (F10 b3 x23 (x21 + 1)).2 < (F10 b3 x20 x21).2))))))))))))))) ∧
 ((n3 : Int) ≤ x21 →
 (((n3 : Int) = 0 →
 (wrk_pre  m9 ∧ ∀ m11 : Mem, MemSub m9 m11 → ∀ b4 : Bool, wrk_post  m11 b4 →
 (lWin_post p0 n0 c0 x2 x3 x4 x5 x6 x7 m11 b4))) ∧
 ((n3 : Int) ≠ 0 →
 (0 < (n3 : Int) ∧ (p3 ≠ none ∧ (HasI m9 p3 1 1 ∧ (∃ x22 : Int, cellI m9 p3 1 = some (Value.int IntKind.i64 x22) ∧ (K.i64 x22) ∧ (0 ≤ x22 ∧ (x22 ≤ (c1 : Int) ∧ (∃ n23_ : Nat, (n23_ : Int) = x22 ∧ n23_ ≤ 9223372036854775807 ∧ ((2 ≤ 9223372036854775807 ∧ c2 ≤ 9223372036854775807) ∧ (n23_ ≤ 9223372036854775807 ∧ c1 ≤ 9223372036854775807) ∧ aRat_pre 1000 10 10 60 0 x12 x13 ((some p2).map fun p => p.add 0) 2 c2 (p1.map fun p => p.add 0) n23_ c1 m9 ∧ ∀ m11 : Mem, MemSub m9 m11 → ∀ (p4 : Option Addr) (n4 c4 : Nat), n4 ≤ 9223372036854775807 → c4 ≤ 9223372036854775807 → ∀ x26 : Int, IntKind.i64.min ≤ x26 → x26 ≤ IntKind.i64.max → aRat_post 1000 10 10 60 0 x12 x13 ((some p2).map fun p => p.add 0) 2 c2 (p1.map fun p => p.add 0) n23_ c1 m11 p4 n4 c4 x26 →
 ((x26 = 0 →
 (((n4 : Int) = 0 →
 (0 ≤ x22 ∧ (x22 ≤ (c1 : Int) ∧ (∃ n27_ : Nat, (n27_ : Int) = x22 ∧ n27_ ≤ 9223372036854775807 ∧ ((n27_ ≤ 9223372036854775807 ∧ c1 ≤ 9223372036854775807) ∧ sprd_pre (p1.map fun p => p.add 0) n27_ c1 (-1 : Int) x12 x13 m11 ∧ ∀ m12 : Mem, MemSub m11 m12 → ∀ b4 : Bool, sprd_post (p1.map fun p => p.add 0) n27_ c1 (-1 : Int) x12 x13 m12 b4 →
 ((b4 = true →
 ((n27_ ≤ 9223372036854775807 ∧ c1 ≤ 9223372036854775807) ∧ sprd_pre (p1.map fun p => p.add 0) n27_ c1 0 x8 x9 m12 ∧ ∀ m13 : Mem, MemSub m12 m13 → ∀ b5 : Bool, sprd_post (p1.map fun p => p.add 0) n27_ c1 0 x8 x9 m13 b5 →
 ((b5 = true →
 ((n27_ ≤ 9223372036854775807 ∧ c1 ≤ 9223372036854775807) ∧ sprd_pre (p1.map fun p => p.add 0) n27_ c1 1 x10 x11 m13 ∧ ∀ m14 : Mem, MemSub m13 m14 → ∀ b6 : Bool, sprd_post (p1.map fun p => p.add 0) n27_ c1 1 x10 x11 m14 b6 →
 ((b6 = true →
 ((x22 + 1) ≤ 9223372036854775807 ∧ (0 ≤ (x22 + 1) ∧ ((x22 + 1) ≤ (c1 : Int) ∧ (∃ n28_ : Nat, (n28_ : Int) = (x22 + 1) ∧ n28_ ≤ 9223372036854775807 ∧ ((n28_ ≤ 9223372036854775807 ∧ c1 ≤ 9223372036854775807) ∧ sprd_pre (p1.map fun p => p.add 0) n28_ c1 (-1 : Int) x12 x13 m14 ∧ ∀ m15 : Mem, MemSub m14 m15 → ∀ b7 : Bool, sprd_post (p1.map fun p => p.add 0) n28_ c1 (-1 : Int) x12 x13 m15 b7 →
 ((b7 = true →
 ((n28_ ≤ 9223372036854775807 ∧ c1 ≤ 9223372036854775807) ∧ sprd_pre (p1.map fun p => p.add 0) n28_ c1 0 x8 x9 m15 ∧ ∀ m16 : Mem, MemSub m15 m16 → ∀ b8 : Bool, sprd_post (p1.map fun p => p.add 0) n28_ c1 0 x8 x9 m16 b8 →
 ((b8 = true →
 ((n28_ ≤ 9223372036854775807 ∧ c1 ≤ 9223372036854775807) ∧ sprd_pre (p1.map fun p => p.add 0) n28_ c1 1 x10 x11 m16 ∧ ∀ m17 : Mem, MemSub m16 m17 → ∀ b9 : Bool, sprd_post (p1.map fun p => p.add 0) n28_ c1 1 x10 x11 m17 b9 →
 ((b9 = false →
 (wrk_pre  m17 ∧ ∀ m18 : Mem, MemSub m17 m18 → ∀ b10 : Bool, wrk_post  m18 b10 →
 (lWin_post p0 n0 c0 x2 x3 x4 x5 x6 x7 m18 b10))) ∧
 (b9 = true →
 (lWin_post p0 n0 c0 x2 x3 x4 x5 x6 x7 m17 false))))) ∧
 (b8 = false →
 (wrk_pre  m16 ∧ ∀ m17 : Mem, MemSub m16 m17 → ∀ b9 : Bool, wrk_post  m17 b9 →
 (lWin_post p0 n0 c0 x2 x3 x4 x5 x6 x7 m17 b9)))))) ∧
 (b7 = false →
 (wrk_pre  m15 ∧ ∀ m16 : Mem, MemSub m15 m16 → ∀ b8 : Bool, wrk_post  m16 b8 →
 (lWin_post p0 n0 c0 x2 x3 x4 x5 x6 x7 m16 b8)))))))))) ∧
 (b6 = false →
 (lWin_post p0 n0 c0 x2 x3 x4 x5 x6 x7 m14 false))))) ∧
 (b5 = false →
 (lWin_post p0 n0 c0 x2 x3 x4 x5 x6 x7 m13 false))))) ∧
 (b4 = false →
 (lWin_post p0 n0 c0 x2 x3 x4 x5 x6 x7 m12 false)))))))) ∧
 ((n4 : Int) ≠ 0 →
 (lWin_post p0 n0 c0 x2 x3 x4 x5 x6 x7 m11 false)))) ∧
 (x26 ≠ 0 →
 (lWin_post p0 n0 c0 x2 x3 x4 x5 x6 x7 m11 false)))))))))))))))))))) ∧
 (b1 = false →
 (((n3 : Int) = 0 →
 (lWin_post p0 n0 c0 x2 x3 x4 x5 x6 x7 m8 false)) ∧
 ((n3 : Int) ≠ 0 →
 (∃ F9 : Bool → Int → Int → Prop × Nat, ((K.i64 (-1 : Int)) ∧ (K.i64 0) ∧ (F9 false (-1 : Int) 0).1) ∧
 ∀ b2 : Bool, ∀ x20 : Int, IntKind.i64.min ≤ x20 → x20 ≤ IntKind.i64.max → ∀ x21 : Int, IntKind.i64.min ≤ x21 → x21 ≤ IntKind.i64.max → (F9 b2 x20 x21).1 →
 ((x21 < (n3 : Int) →
 (0 ≤ x21 ∧ (p3 ≠ none ∧ (HasI m8 p3 (0 + (x21 * 2)) 2 ∧ (∃ x22 : Int, cellI m8 p3 (0 + (x21 * 2)) = some (Value.int IntKind.i64 x22) ∧ (K.i64 x22) ∧ ((x22 ≠ 3 →
 (lWin_post p0 n0 c0 x2 x3 x4 x5 x6 x7 m8 false)) ∧
 (x22 = 3 →
 (∃ x23 : Int, cellI m8 p3 ((0 + (x21 * 2)) + 1) = some (Value.int IntKind.i64 x23) ∧ (K.i64 x23) ∧ ((x23 ≤ x20 →
 (lWin_post p0 n0 c0 x2 x3 x4 x5 x6 x7 m8 false)) ∧
 (x20 < x23 →
 (((n1 : Int) ≤ x23 →
 (lWin_post p0 n0 c0 x2 x3 x4 x5 x6 x7 m8 false)) ∧
 (x23 < (n1 : Int) →
 ((x21 + 1) ≤ 9223372036854775807 ∧ ((K.i64 x23) ∧ (IntKind.i64.min ≤ (x21 + 1) ∧ (x21 + 1) ≤ IntKind.i64.max) ∧ ((F9 b2 x23 (x21 + 1)).1 ∧ (F9 b2 x23 (x21 + 1)).2 < (F9 b2 x20 x21).2))))))))))))))) ∧
 ((n3 : Int) ≤ x21 →
 (0 < (n3 : Int) ∧ (p3 ≠ none ∧ (HasI m8 p3 1 1 ∧ (∃ x22 : Int, cellI m8 p3 1 = some (Value.int IntKind.i64 x22) ∧ (K.i64 x22) ∧ (0 ≤ x22 ∧ (x22 ≤ (c1 : Int) ∧ (∃ n23_ : Nat, (n23_ : Int) = x22 ∧ n23_ ≤ 9223372036854775807 ∧ ((2 ≤ 9223372036854775807 ∧ c2 ≤ 9223372036854775807) ∧ (n23_ ≤ 9223372036854775807 ∧ c1 ≤ 9223372036854775807) ∧ aRat_pre 1000 10 10 60 0 x12 x13 ((some p2).map fun p => p.add 0) 2 c2 (p1.map fun p => p.add 0) n23_ c1 m8 ∧ ∀ m10 : Mem, MemSub m8 m10 → ∀ (p4 : Option Addr) (n4 c4 : Nat), n4 ≤ 9223372036854775807 → c4 ≤ 9223372036854775807 → ∀ x26 : Int, IntKind.i64.min ≤ x26 → x26 ≤ IntKind.i64.max → aRat_post 1000 10 10 60 0 x12 x13 ((some p2).map fun p => p.add 0) 2 c2 (p1.map fun p => p.add 0) n23_ c1 m10 p4 n4 c4 x26 →
 ((x26 = 0 →
 (((n4 : Int) = 0 →
 (0 ≤ x22 ∧ (x22 ≤ (c1 : Int) ∧ (∃ n27_ : Nat, (n27_ : Int) = x22 ∧ n27_ ≤ 9223372036854775807 ∧ ((n27_ ≤ 9223372036854775807 ∧ c1 ≤ 9223372036854775807) ∧ sprd_pre (p1.map fun p => p.add 0) n27_ c1 (-1 : Int) x12 x13 m10 ∧ ∀ m11 : Mem, MemSub m10 m11 → ∀ b3 : Bool, sprd_post (p1.map fun p => p.add 0) n27_ c1 (-1 : Int) x12 x13 m11 b3 →
 ((b3 = true →
 ((n27_ ≤ 9223372036854775807 ∧ c1 ≤ 9223372036854775807) ∧ sprd_pre (p1.map fun p => p.add 0) n27_ c1 0 x8 x9 m11 ∧ ∀ m12 : Mem, MemSub m11 m12 → ∀ b4 : Bool, sprd_post (p1.map fun p => p.add 0) n27_ c1 0 x8 x9 m12 b4 →
 ((b4 = true →
 ((n27_ ≤ 9223372036854775807 ∧ c1 ≤ 9223372036854775807) ∧ sprd_pre (p1.map fun p => p.add 0) n27_ c1 1 x10 x11 m12 ∧ ∀ m13 : Mem, MemSub m12 m13 → ∀ b5 : Bool, sprd_post (p1.map fun p => p.add 0) n27_ c1 1 x10 x11 m13 b5 →
 ((b5 = true →
 ((x22 + 1) ≤ 9223372036854775807 ∧ (0 ≤ (x22 + 1) ∧ ((x22 + 1) ≤ (c1 : Int) ∧ (∃ n28_ : Nat, (n28_ : Int) = (x22 + 1) ∧ n28_ ≤ 9223372036854775807 ∧ ((n28_ ≤ 9223372036854775807 ∧ c1 ≤ 9223372036854775807) ∧ sprd_pre (p1.map fun p => p.add 0) n28_ c1 (-1 : Int) x12 x13 m13 ∧ ∀ m14 : Mem, MemSub m13 m14 → ∀ b6 : Bool, sprd_post (p1.map fun p => p.add 0) n28_ c1 (-1 : Int) x12 x13 m14 b6 →
 ((b6 = true →
 ((n28_ ≤ 9223372036854775807 ∧ c1 ≤ 9223372036854775807) ∧ sprd_pre (p1.map fun p => p.add 0) n28_ c1 0 x8 x9 m14 ∧ ∀ m15 : Mem, MemSub m14 m15 → ∀ b7 : Bool, sprd_post (p1.map fun p => p.add 0) n28_ c1 0 x8 x9 m15 b7 →
 ((b7 = true →
 ((n28_ ≤ 9223372036854775807 ∧ c1 ≤ 9223372036854775807) ∧ sprd_pre (p1.map fun p => p.add 0) n28_ c1 1 x10 x11 m15 ∧ ∀ m16 : Mem, MemSub m15 m16 → ∀ b8 : Bool, sprd_post (p1.map fun p => p.add 0) n28_ c1 1 x10 x11 m16 b8 →
 ((b8 = false →
 (wrk_pre  m16 ∧ ∀ m17 : Mem, MemSub m16 m17 → ∀ b9 : Bool, wrk_post  m17 b9 →
 (lWin_post p0 n0 c0 x2 x3 x4 x5 x6 x7 m17 b9))) ∧
 (b8 = true →
 (lWin_post p0 n0 c0 x2 x3 x4 x5 x6 x7 m16 false))))) ∧
 (b7 = false →
 (wrk_pre  m15 ∧ ∀ m16 : Mem, MemSub m15 m16 → ∀ b8 : Bool, wrk_post  m16 b8 →
 (lWin_post p0 n0 c0 x2 x3 x4 x5 x6 x7 m16 b8)))))) ∧
 (b6 = false →
 (wrk_pre  m14 ∧ ∀ m15 : Mem, MemSub m14 m15 → ∀ b7 : Bool, wrk_post  m15 b7 →
 (lWin_post p0 n0 c0 x2 x3 x4 x5 x6 x7 m15 b7)))))))))) ∧
 (b5 = false →
 (lWin_post p0 n0 c0 x2 x3 x4 x5 x6 x7 m13 false))))) ∧
 (b4 = false →
 (lWin_post p0 n0 c0 x2 x3 x4 x5 x6 x7 m12 false))))) ∧
 (b3 = false →
 (lWin_post p0 n0 c0 x2 x3 x4 x5 x6 x7 m11 false)))))))) ∧
 ((n4 : Int) ≠ 0 →
 (lWin_post p0 n0 c0 x2 x3 x4 x5 x6 x7 m10 false)))) ∧
 (x26 ≠ 0 →
 (lWin_post p0 n0 c0 x2 x3 x4 x5 x6 x7 m10 false)))))))))))))))))))) ∧
 (b0 = false →
 (((n3 : Int) = 0 →
 (lWin_post p0 n0 c0 x2 x3 x4 x5 x6 x7 m7 false)) ∧
 ((n3 : Int) ≠ 0 →
 (∃ F8 : Bool → Int → Int → Prop × Nat, ((K.i64 (-1 : Int)) ∧ (K.i64 0) ∧ (F8 false (-1 : Int) 0).1) ∧
 ∀ b1 : Bool, ∀ x20 : Int, IntKind.i64.min ≤ x20 → x20 ≤ IntKind.i64.max → ∀ x21 : Int, IntKind.i64.min ≤ x21 → x21 ≤ IntKind.i64.max → (F8 b1 x20 x21).1 →
 ((x21 < (n3 : Int) →
 (0 ≤ x21 ∧ (p3 ≠ none ∧ (HasI m7 p3 (0 + (x21 * 2)) 2 ∧ (∃ x22 : Int, cellI m7 p3 (0 + (x21 * 2)) = some (Value.int IntKind.i64 x22) ∧ (K.i64 x22) ∧ ((x22 ≠ 3 →
 (lWin_post p0 n0 c0 x2 x3 x4 x5 x6 x7 m7 false)) ∧
 (x22 = 3 →
 (∃ x23 : Int, cellI m7 p3 ((0 + (x21 * 2)) + 1) = some (Value.int IntKind.i64 x23) ∧ (K.i64 x23) ∧ ((x23 ≤ x20 →
 (lWin_post p0 n0 c0 x2 x3 x4 x5 x6 x7 m7 false)) ∧
 (x20 < x23 →
 (((n1 : Int) ≤ x23 →
 (lWin_post p0 n0 c0 x2 x3 x4 x5 x6 x7 m7 false)) ∧
 (x23 < (n1 : Int) →
 ((x21 + 1) ≤ 9223372036854775807 ∧ ((K.i64 x23) ∧ (IntKind.i64.min ≤ (x21 + 1) ∧ (x21 + 1) ≤ IntKind.i64.max) ∧ ((F8 b1 x23 (x21 + 1)).1 ∧ (F8 b1 x23 (x21 + 1)).2 < (F8 b1 x20 x21).2))))))))))))))) ∧
 ((n3 : Int) ≤ x21 →
 (0 < (n3 : Int) ∧ (p3 ≠ none ∧ (HasI m7 p3 1 1 ∧ (∃ x22 : Int, cellI m7 p3 1 = some (Value.int IntKind.i64 x22) ∧ (K.i64 x22) ∧ (0 ≤ x22 ∧ (x22 ≤ (c1 : Int) ∧ (∃ n23_ : Nat, (n23_ : Int) = x22 ∧ n23_ ≤ 9223372036854775807 ∧ ((2 ≤ 9223372036854775807 ∧ c2 ≤ 9223372036854775807) ∧ (n23_ ≤ 9223372036854775807 ∧ c1 ≤ 9223372036854775807) ∧ aRat_pre 1000 10 10 60 0 x12 x13 ((some p2).map fun p => p.add 0) 2 c2 (p1.map fun p => p.add 0) n23_ c1 m7 ∧ ∀ m9 : Mem, MemSub m7 m9 → ∀ (p4 : Option Addr) (n4 c4 : Nat), n4 ≤ 9223372036854775807 → c4 ≤ 9223372036854775807 → ∀ x26 : Int, IntKind.i64.min ≤ x26 → x26 ≤ IntKind.i64.max → aRat_post 1000 10 10 60 0 x12 x13 ((some p2).map fun p => p.add 0) 2 c2 (p1.map fun p => p.add 0) n23_ c1 m9 p4 n4 c4 x26 →
 ((x26 = 0 →
 (((n4 : Int) = 0 →
 (0 ≤ x22 ∧ (x22 ≤ (c1 : Int) ∧ (∃ n27_ : Nat, (n27_ : Int) = x22 ∧ n27_ ≤ 9223372036854775807 ∧ ((n27_ ≤ 9223372036854775807 ∧ c1 ≤ 9223372036854775807) ∧ sprd_pre (p1.map fun p => p.add 0) n27_ c1 (-1 : Int) x12 x13 m9 ∧ ∀ m10 : Mem, MemSub m9 m10 → ∀ b2 : Bool, sprd_post (p1.map fun p => p.add 0) n27_ c1 (-1 : Int) x12 x13 m10 b2 →
 ((b2 = true →
 ((n27_ ≤ 9223372036854775807 ∧ c1 ≤ 9223372036854775807) ∧ sprd_pre (p1.map fun p => p.add 0) n27_ c1 0 x8 x9 m10 ∧ ∀ m11 : Mem, MemSub m10 m11 → ∀ b3 : Bool, sprd_post (p1.map fun p => p.add 0) n27_ c1 0 x8 x9 m11 b3 →
 ((b3 = true →
 ((n27_ ≤ 9223372036854775807 ∧ c1 ≤ 9223372036854775807) ∧ sprd_pre (p1.map fun p => p.add 0) n27_ c1 1 x10 x11 m11 ∧ ∀ m12 : Mem, MemSub m11 m12 → ∀ b4 : Bool, sprd_post (p1.map fun p => p.add 0) n27_ c1 1 x10 x11 m12 b4 →
 ((b4 = true →
 ((x22 + 1) ≤ 9223372036854775807 ∧ (0 ≤ (x22 + 1) ∧ ((x22 + 1) ≤ (c1 : Int) ∧ (∃ n28_ : Nat, (n28_ : Int) = (x22 + 1) ∧ n28_ ≤ 9223372036854775807 ∧ ((n28_ ≤ 9223372036854775807 ∧ c1 ≤ 9223372036854775807) ∧ sprd_pre (p1.map fun p => p.add 0) n28_ c1 (-1 : Int) x12 x13 m12 ∧ ∀ m13 : Mem, MemSub m12 m13 → ∀ b5 : Bool, sprd_post (p1.map fun p => p.add 0) n28_ c1 (-1 : Int) x12 x13 m13 b5 →
 ((b5 = true →
 ((n28_ ≤ 9223372036854775807 ∧ c1 ≤ 9223372036854775807) ∧ sprd_pre (p1.map fun p => p.add 0) n28_ c1 0 x8 x9 m13 ∧ ∀ m14 : Mem, MemSub m13 m14 → ∀ b6 : Bool, sprd_post (p1.map fun p => p.add 0) n28_ c1 0 x8 x9 m14 b6 →
 ((b6 = true →
 ((n28_ ≤ 9223372036854775807 ∧ c1 ≤ 9223372036854775807) ∧ sprd_pre (p1.map fun p => p.add 0) n28_ c1 1 x10 x11 m14 ∧ ∀ m15 : Mem, MemSub m14 m15 → ∀ b7 : Bool, sprd_post (p1.map fun p => p.add 0) n28_ c1 1 x10 x11 m15 b7 →
 ((b7 = false →
 (wrk_pre  m15 ∧ ∀ m16 : Mem, MemSub m15 m16 → ∀ b8 : Bool, wrk_post  m16 b8 →
 (lWin_post p0 n0 c0 x2 x3 x4 x5 x6 x7 m16 b8))) ∧
 (b7 = true →
 (lWin_post p0 n0 c0 x2 x3 x4 x5 x6 x7 m15 false))))) ∧
 (b6 = false →
 (wrk_pre  m14 ∧ ∀ m15 : Mem, MemSub m14 m15 → ∀ b7 : Bool, wrk_post  m15 b7 →
 (lWin_post p0 n0 c0 x2 x3 x4 x5 x6 x7 m15 b7)))))) ∧
 (b5 = false →
 (wrk_pre  m13 ∧ ∀ m14 : Mem, MemSub m13 m14 → ∀ b6 : Bool, wrk_post  m14 b6 →
 (lWin_post p0 n0 c0 x2 x3 x4 x5 x6 x7 m14 b6)))))))))) ∧
 (b4 = false →
 (lWin_post p0 n0 c0 x2 x3 x4 x5 x6 x7 m12 false))))) ∧
 (b3 = false →
 (lWin_post p0 n0 c0 x2 x3 x4 x5 x6 x7 m11 false))))) ∧
 (b2 = false →
 (lWin_post p0 n0 c0 x2 x3 x4 x5 x6 x7 m10 false)))))))) ∧
 ((n4 : Int) ≠ 0 →
 (lWin_post p0 n0 c0 x2 x3 x4 x5 x6 x7 m9 false)))) ∧
 (x26 ≠ 0 →
 (lWin_post p0 n0 c0 x2 x3 x4 x5 x6 x7 m9 false)))))))))))))))))))))))))))
set_option maxRecDepth 20000 in
set_option maxHeartbeats 4000000 in
theorem lWin_vc : lWin_VC := by
  intro m p0 n0 c0 hn0 hc0 x2 _ _ x3 _ _ x4 _ _ x5 _ _ x6 _ _ x7 _ _ ⟨⟨gsp, gmx⟩, hnc, L0, hL0⟩
  refine ⟨trivial, fun m1 hm1 t1 _ _ u1 _ _ h1 => ⟨trivial, fun m2 hm2 t2 _ _ u2 _ _ h2 => ⟨trivial, fun m3 hm3 t _ _ u _ _ h => ⟨⟨hn0, hc0⟩, ?_, fun m4 hm4 p1 n1 c1 hn1 hc1 hlp => ?_⟩⟩⟩⟩
  · rw [map_add0]
    exact ⟨hnc, L0, ((hL0.sub hm1).sub hm2).sub hm3⟩
  obtain ⟨hnc1, l, hl, ln⟩ := hlp
  have h1 : LimW t1 u1 := h1
  have h2 : LimW t2 u2 := h2
  have h : LimW t u := h
  have hlen := hl.1
  have h100 := ln.1.1
  intro p2 c2 m5 hm5 hrow hc2
  simp only [map_add0]
  have hm05 : MemSub m m5 := (((hm1.trans hm2).trans hm3).trans hm4).trans hm5
  have hjob : JobsAt m5 (some p2) 2 (cfgW t1 u1 t2 u2) := jobs_row2 (J := jobW 97 t1 u1) (T := jobW 98 t2 u2) hrow (jobW_ok h1) (jobW_ok h2)
  have rpre : ∀ M, MemSub m5 M → ∀ k, k ≤ n1 → aRat_pre 1000 10 10 60 0 t u (some p2) 2 c2 p1 k c1 M := fun M hM k hk => ⟨⟨Globs.sub (hm05.trans hM) gsp, by omega⟩, _, l.take k, hjob.sub hM, evs_take ((hl.sub hm5).sub hM) hk⟩
  have rpost : ∀ M, MemSub m5 M → ∀ k, k ≤ n1 → ∀ q n4 c4 z, aRat_post 1000 10 10 60 0 t u (some p2) 2 c2 p1 k c1 M q n4 c4 z → z = 0 ∧ RowM M q (flRow 3 (winI t u t1 u1 t2 u2 (l.take k))) ∧ n4 = (winI t u t1 u1 t2 u2 (l.take k)).length := fun M hM k hk q n4 c4 z hp => by
    obtain ⟨e1, e2, e3⟩ := hp (cfgW t1 u1 t2 u2) (l.take k) (hjob.sub hM) (evs_take ((hl.sub hm5).sub hM) hk)
    rw [auW h h1 h2 (ln.take k)] at e1
    exact ⟨e1, e2, e3⟩
  have spre : ∀ M, MemSub m5 M → ∀ k, k ≤ n1 → ∀ j t' u', LimW t' u' → sprd_pre p1 k c1 j t' u' M := fun M hM k hk j t' u' hl' => ⟨hl', l.take k, evs_take ((hl.sub hm5).sub hM) hk, ln.take k⟩
  have spost : ∀ M, MemSub m5 M → ∀ k, k ≤ n1 → ∀ j t' u' b, sprd_post p1 k c1 j t' u' M b → (b = true ↔ Spread t' u' (lat (jobw j) (l.take k))) := fun M hM k hk j t' u' b hp => hp (l.take k) (evs_take ((hl.sub hm5).sub hM) hk)
  have htk : l.take n1 = l := by rw [← hlen]; exact List.take_length
  have wk : ∀ M, MemSub m5 M → wrk_pre M ∧ ∀ m' : Mem, MemSub M m' → ∀ b : Bool, wrk_post m' b → lWin_post p0 n0 c0 x2 x3 x4 x5 x6 x7 m' b := fun M hM => ⟨Globs.sub (hm05.trans hM) gmx, fun m' _ b hb => hb⟩
  have k0 : K.i64 0 := by constructor <;> decide
  have kn : K.i64 (-1) := by constructor <;> decide
  have k3 : K.i64 3 := by constructor <;> decide
  refine ⟨⟨by omega, hc2⟩, ⟨hn1, hc1⟩, rpre m5 (fun _ _ g => g) n1 (Nat.le_refl _), fun m6 hm6 p3 n3 c3 hn3 hc3 x19 _ _ hrat => ?_⟩
  obtain ⟨e19, hrow3, hn3e⟩ := rpost m6 hm6 n1 (Nat.le_refl _) p3 n3 c3 x19 hrat
  rw [htk] at hrow3 hn3e
  have hnil := winI_nil h h1 h2 ln
  have hfirst := fun k hk => winI_first h h1 h2 ln (k := k) hk
  have hnext := fun i k hk => winI_next h h1 h2 ln (i := i) (k := k) hk
  generalize hI : winI t u t1 u1 t2 u2 l = I at *
  have hn3z : (n3 : Int) = 0 ↔ I = [] := by
    rw [← List.length_eq_zero_iff]; omega
  have at3 : ∀ M, MemSub m6 M → ∀ i : Nat, i < n3 → ∃ k : Nat, I[i]? = some k ∧ p3 ≠ none ∧ HasI M p3 (0 + ((i : Int) * 2)) 2 ∧ cellI M p3 (0 + ((i : Int) * 2)) = some (.int .i64 3) ∧ cellI M p3 (0 + ((i : Int) * 2) + 1) = some (.int .i64 (k : Int)) ∧ HasI M p3 (0 + ((i : Int) * 2) + 1) 1 ∧ k < n1 ∧ K.i64 (k : Int) ∧ ∀ x : Int, (i = 0 → x = -1) → (∀ v, 0 < i → I[i - 1]? = some v → x = (v : Int)) → x < (k : Int) := by
    intro M hM i hi
    have hk : I[i]? = some (I[i]'(by omega)) := List.getElem?_eq_getElem _
    generalize I[i]'(by omega) = k at hk
    obtain ⟨g1, g2⟩ := flRow_gt 3 I i k hk
    obtain ⟨kl, kup⟩ := hnext i k hk
    have kk : K.i64 (k : Int) := k64 (by omega) (by omega)
    have a1 := ((hrow3.sub hM).int g1 k3).to (b := 0 + ((i : Int) * 2)) (by omega)
    have a2 := ((hrow3.sub hM).int g2 kk).to (b := 0 + ((i : Int) * 2) + 1) (by omega)
    refine ⟨k, hk, a1.ne, (hasI_of (by omega) fun j hj => ?_).2, a1.1, a2.1, a2.has, by omega, kk, fun x hx0 hxv => ?_⟩
    · rcases (by omega : j = 0 ∨ j = 1) with rfl | rfl
      · exact ⟨_, by simpa using a1.1⟩
      · exact ⟨_, a2.1⟩
    · rcases Nat.eq_zero_or_pos i with h0 | h0
      · rw [hx0 h0]; omega
      · have hv : I[i - 1]? = some (I[i - 1]'(by omega)) := List.getElem?_eq_getElem _
        have := kup (i - 1) _ (by omega) hv
        rw [hxv _ h0 hv]; omega
  refine ⟨fun g => (g e19).elim, fun _ => ⟨⟨hn1, hc1⟩, spre m6 hm6 n1 (Nat.le_refl _) _ _ _ h, fun m7 hm7 b0 hb0 => ?_⟩⟩
  have hb0 := spost m7 (hm6.trans hm7) n1 (Nat.le_refl _) _ _ _ b0 hb0
  rw [htk] at hb0
  refine ⟨fun b0t => ⟨⟨hn1, hc1⟩, spre m7 (hm6.trans hm7) n1 (Nat.le_refl _) _ _ _ h1, fun m8 hm8 b1 hb1 => ?_⟩, fun b0f => ?_⟩
  rotate_left
  · have hne : ¬ (n3 : Int) = 0 := fun g => by
      have := hb0.2 (hnil.1 (hn3z.1 g)).1
      rw [b0f] at this; cases this
    refine ⟨fun g => (hne g).elim, fun _ => ?_⟩
    refine ⟨fun b x y => (∃ i : Nat, y = i ∧ i ≤ n3 ∧ (i = 0 → x = -1) ∧ (∀ v, 0 < i → I[i - 1]? = some v → x = (v : Int)), ((n3 : Int) - y).toNat), ⟨kn, k0, 0, rfl, by omega, fun _ => rfl, fun v g => by omega⟩, ?_⟩
    rintro bb xx _ _ yy _ _ ⟨i, rfl, hi, hx0, hxv⟩
    refine ⟨fun hlt => ?_, fun hge => ?_⟩
    · obtain ⟨k, hk, hp3, hh, hc3', hck, _, hkn, kk, hlt3⟩ := at3 m7 hm7 i (by omega)
      have hxk := hlt3 xx hx0 hxv
      refine ⟨by omega, hp3, hh, 3, hc3', k3, fun g => (g rfl).elim, fun _ => ⟨(k : Int), hck, kk, fun g => by omega, fun _ => ⟨fun g => by omega, fun _ => ⟨by omega, kk, k64 (by omega) (by omega), ⟨i + 1, by omega, by omega, fun g => by omega, fun v _ hv => by
        rw [Nat.add_sub_cancel, hk] at hv; cases hv; rfl⟩, by first | omega | (simp only; omega)⟩⟩⟩⟩
    · have hpos : 0 < n3 := by omega
      obtain ⟨k, hk, hp3, _, _, hck, hh1, hkn, kk, _⟩ := at3 m7 hm7 0 (by omega)
      obtain ⟨hkl, hbef, haft⟩ := hfirst k hk
      have hM5 := hm6.trans hm7
      refine ⟨by omega, hp3, hh1, (k : Int), hck, kk, by omega, by omega, k, rfl, by omega, ⟨by omega, hc2⟩, ⟨by omega, hc1⟩, rpre m7 hM5 k (by omega), fun ma hma p4 n4 c4 _ _ z4 _ _ hr4 => ?_⟩
      have hMa := hM5.trans hma
      obtain ⟨e4, _, hn4⟩ := rpost ma hMa k (by omega) p4 n4 c4 z4 hr4
      rw [hbef] at hn4
      have hn4 : n4 = 0 := hn4
      have fk := (winI_nil h h1 h2 (ln.take k)).1 hbef
      refine ⟨fun _ => ⟨fun _ => ⟨by omega, by omega, k, rfl, by omega, ⟨by omega, hc1⟩, spre ma hMa k (by omega) _ _ _ h, fun mb hmb d0 hd0 => ?_⟩, fun g => by omega⟩, fun g => (g e4).elim⟩
      have hMb := hMa.trans hmb
      have d0t : d0 = true := (spost mb hMb k (by omega) _ _ _ d0 hd0).2 fk.1
      refine ⟨fun _ => ⟨⟨by omega, hc1⟩, spre mb hMb k (by omega) _ _ _ h1, fun mc hmc d1 hd1 => ?_⟩, fun g => by rw [d0t] at g; cases g⟩
      have hMc := hMb.trans hmc
      have d1t : d1 = true := (spost mc hMc k (by omega) _ _ _ d1 hd1).2 fk.2.1
      refine ⟨fun _ => ⟨⟨by omega, hc1⟩, spre mc hMc k (by omega) _ _ _ h2, fun md hmd d2 hd2 => ?_⟩, fun g => by rw [d1t] at g; cases g⟩
      have hMd := hMc.trans hmd
      have d2t : d2 = true := (spost md hMd k (by omega) _ _ _ d2 hd2).2 fk.2.2
      refine ⟨fun _ => ⟨by omega, by omega, by omega, k + 1, by omega, by omega, ⟨by omega, hc1⟩, spre md hMd (k + 1) (by omega) _ _ _ h, fun me hme d3 hd3 => ?_⟩, fun g => by rw [d2t] at g; cases g⟩
      have hMe := hMd.trans hme
      have f3 := spost me hMe (k + 1) (by omega) _ _ _ d3 hd3
      refine ⟨fun g3 => ⟨⟨by omega, hc1⟩, spre me hMe (k + 1) (by omega) _ _ _ h1, fun mf hmf d4 hd4 => ?_⟩, fun _ => wk me hMe⟩
      have hMf := hMe.trans hmf
      have f4 := spost mf hMf (k + 1) (by omega) _ _ _ d4 hd4
      refine ⟨fun g4 => ⟨⟨by omega, hc1⟩, spre mf hMf (k + 1) (by omega) _ _ _ h2, fun mg hmg d5 hd5 => ?_⟩, fun _ => wk mf hMf⟩
      have hMg := hMf.trans hmg
      have f5 := spost mg hMg (k + 1) (by omega) _ _ _ d5 hd5
      exact ⟨fun _ => wk mg hMg, fun g5 => (haft ⟨f3.1 g3, f4.1 g4, f5.1 g5⟩).elim⟩
  have hb1 := spost m8 ((hm6.trans hm7).trans hm8) n1 (Nat.le_refl _) _ _ _ b1 hb1
  rw [htk] at hb1
  refine ⟨fun b1t => ⟨⟨hn1, hc1⟩, spre m8 ((hm6.trans hm7).trans hm8) n1 (Nat.le_refl _) _ _ _ h2, fun m9 hm9 b2 hb2 => ?_⟩, fun b1f => ?_⟩
  rotate_left
  · have hne : ¬ (n3 : Int) = 0 := fun g => by
      have := hb1.2 (hnil.1 (hn3z.1 g)).2.1
      rw [b1f] at this; cases this
    have hM := hm7.trans hm8
    refine ⟨fun g => (hne g).elim, fun _ => ?_⟩
    refine ⟨fun b x y => (∃ i : Nat, y = i ∧ i ≤ n3 ∧ (i = 0 → x = -1) ∧ (∀ v, 0 < i → I[i - 1]? = some v → x = (v : Int)), ((n3 : Int) - y).toNat), ⟨kn, k0, 0, rfl, by omega, fun _ => rfl, fun v g => by omega⟩, ?_⟩
    rintro bb xx _ _ yy _ _ ⟨i, rfl, hi, hx0, hxv⟩
    refine ⟨fun hlt => ?_, fun hge => ?_⟩
    · obtain ⟨k, hk, hp3, hh, hc3', hck, _, hkn, kk, hlt3⟩ := at3 m8 hM i (by omega)
      have hxk := hlt3 xx hx0 hxv
      refine ⟨by omega, hp3, hh, 3, hc3', k3, fun g => (g rfl).elim, fun _ => ⟨(k : Int), hck, kk, fun g => by omega, fun _ => ⟨fun g => by omega, fun _ => ⟨by omega, kk, k64 (by omega) (by omega), ⟨i + 1, by omega, by omega, fun g => by omega, fun v _ hv => by
        rw [Nat.add_sub_cancel, hk] at hv; cases hv; rfl⟩, by first | omega | (simp only; omega)⟩⟩⟩⟩
    · have hpos : 0 < n3 := by omega
      obtain ⟨k, hk, hp3, _, _, hck, hh1, hkn, kk, _⟩ := at3 m8 hM 0 (by omega)
      obtain ⟨hkl, hbef, haft⟩ := hfirst k hk
      have hM5 := hm6.trans hM
      refine ⟨by omega, hp3, hh1, (k : Int), hck, kk, by omega, by omega, k, rfl, by omega, ⟨by omega, hc2⟩, ⟨by omega, hc1⟩, rpre m8 hM5 k (by omega), fun ma hma p4 n4 c4 _ _ z4 _ _ hr4 => ?_⟩
      have hMa := hM5.trans hma
      obtain ⟨e4, _, hn4⟩ := rpost ma hMa k (by omega) p4 n4 c4 z4 hr4
      rw [hbef] at hn4
      have hn4 : n4 = 0 := hn4
      have fk := (winI_nil h h1 h2 (ln.take k)).1 hbef
      refine ⟨fun _ => ⟨fun _ => ⟨by omega, by omega, k, rfl, by omega, ⟨by omega, hc1⟩, spre ma hMa k (by omega) _ _ _ h, fun mb hmb d0 hd0 => ?_⟩, fun g => by omega⟩, fun g => (g e4).elim⟩
      have hMb := hMa.trans hmb
      have d0t : d0 = true := (spost mb hMb k (by omega) _ _ _ d0 hd0).2 fk.1
      refine ⟨fun _ => ⟨⟨by omega, hc1⟩, spre mb hMb k (by omega) _ _ _ h1, fun mc hmc d1 hd1 => ?_⟩, fun g => by rw [d0t] at g; cases g⟩
      have hMc := hMb.trans hmc
      have d1t : d1 = true := (spost mc hMc k (by omega) _ _ _ d1 hd1).2 fk.2.1
      refine ⟨fun _ => ⟨⟨by omega, hc1⟩, spre mc hMc k (by omega) _ _ _ h2, fun md hmd d2 hd2 => ?_⟩, fun g => by rw [d1t] at g; cases g⟩
      have hMd := hMc.trans hmd
      have d2t : d2 = true := (spost md hMd k (by omega) _ _ _ d2 hd2).2 fk.2.2
      refine ⟨fun _ => ⟨by omega, by omega, by omega, k + 1, by omega, by omega, ⟨by omega, hc1⟩, spre md hMd (k + 1) (by omega) _ _ _ h, fun me hme d3 hd3 => ?_⟩, fun g => by rw [d2t] at g; cases g⟩
      have hMe := hMd.trans hme
      have f3 := spost me hMe (k + 1) (by omega) _ _ _ d3 hd3
      refine ⟨fun g3 => ⟨⟨by omega, hc1⟩, spre me hMe (k + 1) (by omega) _ _ _ h1, fun mf hmf d4 hd4 => ?_⟩, fun _ => wk me hMe⟩
      have hMf := hMe.trans hmf
      have f4 := spost mf hMf (k + 1) (by omega) _ _ _ d4 hd4
      refine ⟨fun g4 => ⟨⟨by omega, hc1⟩, spre mf hMf (k + 1) (by omega) _ _ _ h2, fun mg hmg d5 hd5 => ?_⟩, fun _ => wk mf hMf⟩
      have hMg := hMf.trans hmg
      have f5 := spost mg hMg (k + 1) (by omega) _ _ _ d5 hd5
      exact ⟨fun _ => wk mg hMg, fun g5 => (haft ⟨f3.1 g3, f4.1 g4, f5.1 g5⟩).elim⟩
  have hb2 := spost m9 (((hm6.trans hm7).trans hm8).trans hm9) n1 (Nat.le_refl _) _ _ _ b2 hb2
  rw [htk] at hb2
  have hM := (hm7.trans hm8).trans hm9
  have key : b2 = true ↔ (n3 : Int) = 0 := by
    rw [hn3z, hnil]
    exact ⟨fun g => ⟨hb0.1 b0t, hb1.1 b1t, hb2.1 g⟩, fun g => hb2.2 g.2.2⟩
  refine ⟨fun g => ?_, fun _ => ?_⟩
  · exfalso
    obtain ⟨g1, g2⟩ := g key.1
    have := key.2 g1
    rw [g2] at this; cases this
  refine ⟨fun b x y => (∃ i : Nat, y = i ∧ i ≤ n3 ∧ (i = 0 → x = -1) ∧ (∀ v, 0 < i → I[i - 1]? = some v → x = (v : Int)), ((n3 : Int) - y).toNat), ⟨kn, k0, 0, rfl, by omega, fun _ => rfl, fun v g => by omega⟩, ?_⟩
  rintro bb xx _ _ yy _ _ ⟨i, rfl, hi, hx0, hxv⟩
  refine ⟨fun hlt => ?_, fun hge => ?_⟩
  · obtain ⟨k, hk, hp3, hh, hc3', hck, _, hkn, kk, hlt3⟩ := at3 m9 hM i (by omega)
    have hxk := hlt3 xx hx0 hxv
    refine ⟨by omega, hp3, hh, 3, hc3', k3, fun g => (g rfl).elim, fun _ => ⟨(k : Int), hck, kk, fun g => by omega, fun _ => ⟨fun g => by omega, fun _ => ⟨by omega, kk, k64 (by omega) (by omega), ⟨i + 1, by omega, by omega, fun g => by omega, fun v _ hv => by
      rw [Nat.add_sub_cancel, hk] at hv; cases hv; rfl⟩, by first | omega | (simp only; omega)⟩⟩⟩⟩
  · refine ⟨fun _ => wk m9 (hm6.trans hM), fun hne => ?_⟩
    have hpos : 0 < n3 := by omega
    obtain ⟨k, hk, hp3, _, _, hck, hh1, hkn, kk, _⟩ := at3 m9 hM 0 (by omega)
    obtain ⟨hkl, hbef, haft⟩ := hfirst k hk
    have hM5 := hm6.trans hM
    refine ⟨by omega, hp3, hh1, (k : Int), hck, kk, by omega, by omega, k, rfl, by omega, ⟨by omega, hc2⟩, ⟨by omega, hc1⟩, rpre m9 hM5 k (by omega), fun ma hma p4 n4 c4 _ _ z4 _ _ hr4 => ?_⟩
    have hMa := hM5.trans hma
    obtain ⟨e4, _, hn4⟩ := rpost ma hMa k (by omega) p4 n4 c4 z4 hr4
    rw [hbef] at hn4
    have hn4 : n4 = 0 := hn4
    have fk := (winI_nil h h1 h2 (ln.take k)).1 hbef
    refine ⟨fun _ => ⟨fun _ => ⟨by omega, by omega, k, rfl, by omega, ⟨by omega, hc1⟩, spre ma hMa k (by omega) _ _ _ h, fun mb hmb d0 hd0 => ?_⟩, fun g => by omega⟩, fun g => (g e4).elim⟩
    have hMb := hMa.trans hmb
    have d0t : d0 = true := (spost mb hMb k (by omega) _ _ _ d0 hd0).2 fk.1
    refine ⟨fun _ => ⟨⟨by omega, hc1⟩, spre mb hMb k (by omega) _ _ _ h1, fun mc hmc d1 hd1 => ?_⟩, fun g => by rw [d0t] at g; cases g⟩
    have hMc := hMb.trans hmc
    have d1t : d1 = true := (spost mc hMc k (by omega) _ _ _ d1 hd1).2 fk.2.1
    refine ⟨fun _ => ⟨⟨by omega, hc1⟩, spre mc hMc k (by omega) _ _ _ h2, fun md hmd d2 hd2 => ?_⟩, fun g => by rw [d1t] at g; cases g⟩
    have hMd := hMc.trans hmd
    have d2t : d2 = true := (spost md hMd k (by omega) _ _ _ d2 hd2).2 fk.2.2
    refine ⟨fun _ => ⟨by omega, by omega, by omega, k + 1, by omega, by omega, ⟨by omega, hc1⟩, spre md hMd (k + 1) (by omega) _ _ _ h, fun me hme d3 hd3 => ?_⟩, fun g => by rw [d2t] at g; cases g⟩
    have hMe := hMd.trans hme
    have f3 := spost me hMe (k + 1) (by omega) _ _ _ d3 hd3
    refine ⟨fun g3 => ⟨⟨by omega, hc1⟩, spre me hMe (k + 1) (by omega) _ _ _ h1, fun mf hmf d4 hd4 => ?_⟩, fun _ => wk me hMe⟩
    have hMf := hMe.trans hmf
    have f4 := spost mf hMf (k + 1) (by omega) _ _ _ d4 hd4
    refine ⟨fun g4 => ⟨⟨by omega, hc1⟩, spre mf hMf (k + 1) (by omega) _ _ _ h2, fun mg hmg d5 hd5 => ?_⟩, fun _ => wk mf hMf⟩
    have hMg := hMf.trans hmg
    have f5 := spost mg hMg (k + 1) (by omega) _ _ _ d5 hd5
    exact ⟨fun _ => wk mg hMg, fun g5 => (haft ⟨f3.1 g3, f4.1 g4, f5.1 g5⟩).elim⟩
set_option maxRecDepth 20000 in
theorem lWin_ok : SpOk Tryz.prog lWin :=
  con_ok (sps_of [lim1, lnch, sprd, aRat, wrk] ⟨lim1_ok, ⟨lnch_ok, ⟨sprd_ok, ⟨aRat_ok, ⟨wrk_ok, trivial⟩⟩⟩⟩⟩ rfl) (tab_ok _ [⟨(125, 10), [], [], [], []⟩]) 1000 lWin _ rfl rfl (Eq.mp (show lWin_VC = _ by kernel_rfl) lWin_vc)
end Go.Proofs.YtfpfagmmdiohbaaGreatDoor.Vc
set_option linter.unusedVariables false
set_option linter.unusedSimpArgs false
set_option linter.unusedVariables false
set_option linter.unusedSimpArgs false
namespace Go.Proofs.YtfpfagmmdiohbaaGreatDoor.auditWindows
open Go.ChangeShapes Go.WideShapes Go.ChangeAt Go.RowKit
-- AuditWindows: the contract of the law, at a world.
open Vc in
theorem walk (A : Option Addr) (n c : Nat) (x1 y1 x2 y2 x3 y3 : Int) (hn : n ≤ c) (hc : c ≤ maxLen) (h1 : 0 ≤ x1 ∧ x1 ≤ 255) (k1 : 0 ≤ y1 ∧ y1 ≤ 255) (h2 : 0 ≤ x2 ∧ x2 ≤ 255) (k2 : 0 ≤ y2 ∧ y2 ≤ 255) (h3 : 0 ≤ x3 ∧ x3 ≤ 255) (k3 : 0 ≤ y3 ∧ y3 ≤ 255) (W : World) (hT : VRow.VTabs W) (hs : ∃ l, BytesAt (memW W) A n l) :
    Calls Tryz.prog 4 #[.slice A n c, .agg #[.int .u8 x1, .int .u8 y1], .agg #[.int .u8 x2, .int .u8 y2], .agg #[.int .u8 x3, .int .u8 y3]] W fun e W' => e = .returned (.bool true) ∧ Below W.heap.size W W' := by
  obtain ⟨l, hl⟩ := hs
  have hm : maxLen = 9223372036854775807 := rfl
  have := lWin_ok (memW W) W [.slice A n c, .int .u8 x1, .int .u8 y1, .int .u8 x2, .int .u8 y2, .int .u8 x3, .int .u8 y3] _ (fun _ _ h => h) rfl
    ⟨⟨by omega, by omega⟩, rfl, h1, rfl, k1, rfl, h2, rfl, k2, rfl, h3, rfl, k3, ⟨⟨hT.sp, hT.mx⟩, hn, l, hl⟩⟩
  refine this.mono fun e W' h => ?_
  obtain ⟨m', rs, rs', rfl, hp, hb, _, _, hr⟩ := h
  refine ⟨?_, hb⟩
  obtain ⟨_, _, _, _, _, _, _, _, _, _, _, _, _, hr⟩ := hr
  match rs, hp, hr with
  | [.bool b], hp, hr =>
    have hb : b = true := hr
    cases hp
    rw [hb]; rfl
set_option maxRecDepth 100000 in
theorem contract (H : Type) (enc : TypeId × Value → H) (W : World) (base : Nat) (args : Array Value) (ds gs : List (DataW H)) (before : List MemPlace)
    (hval : ∀ (j : Nat) t v, Tryz.f4.params[j]? = some t → args[j]? = some v → Value.okWide Tryz.prog W .any base t v)
    (hW : DataW.Whole enc Tryz.prog Tryz.f4.params.toList Rows.auditWindowsSpec.vars false W args.toList ds gs before) (hL : laidMetH Tryz.prog Rows.auditWindowsRow.laid W) (hS : W.ShapedOpen Tryz.prog) :
    Calls Tryz.prog 4 args W fun e W' => ∃ v, e = .returned v ∧ Rows.auditWindowsSpec.post enc Tryz.prog Tryz.f4 false true false false W args v W' := by
  have hT : VRow.VTabs W := VRow.tabs_of hL hS
  have hW' := hW
  obtain ⟨p, q, hA0, hV, rfl, hfz, hnd⟩ := hW
  have hA : DataW.TrodAll enc Tryz.prog W 0 (fun _ => true) true Tryz.f4.params.toList args.toList ds p := hA0
  rw [Tryz.params4] at hA hval
  obtain ⟨v0, vs0, d0, ds0, p0, q0, hargs, rfl, rfl, h0, r0⟩ := trodAll_cons hA
  obtain ⟨v1, vs1, d1, ds1, p1, q1, rfl, rfl, rfl, h1, r1⟩ := trodAll_cons r0
  obtain ⟨v2, vs2, d2, ds2, p2, q2, rfl, rfl, rfl, h2, r2⟩ := trodAll_cons r1
  obtain ⟨v3, vs3, d3, ds3, p3, q3, rfl, rfl, rfl, h3, r3⟩ := trodAll_cons r2
  obtain ⟨rfl, rfl, rfl⟩ := trodAll_nil r3
  obtain rfl : args = #[v0, v1, v2, v3] := by cases args; simp_all
  obtain ⟨rfl, rfl⟩ := trodVars_none hV
  have h0k := h0
  obtain ⟨A0, n0, c0, rfl, hn0, hc0, hs0⟩ := VRow.open_u8s (hval 0 40 v0 rfl rfl) h0
  have h1k := h1
  obtain ⟨x1, y1, rfl, hx1, hy1⟩ := VRow.open_two (hval 1 41 v1 rfl rfl) h1
  have h2k := h2
  obtain ⟨x2, y2, rfl, hx2, hy2⟩ := VRow.open_two (hval 2 41 v2 rfl rfl) h2
  have h3k := h3
  obtain ⟨x3, y3, rfl, hx3, hy3⟩ := VRow.open_two (hval 3 41 v3 rfl rfl) h3
  clear hA0
  simp only [List.append_nil] at hW'
  refine (walk A0 n0 c0 x1 y1 x2 y2 x3 y3 hn0 hc0 hx1 hy1 hx2 hy2 hx3 hy3 W hT hs0).mono fun e W' ⟨he, hb⟩ => ?_
  subst he
  exact ⟨_, rfl, _, _, _, [], _, [], hW', trodAll_cons_mk (shut_bool Tryz.underlying4 _) trodAll_mk0, (trodAll_cons_mk (Below.trod (by kernel_rfl) (by kernel_rfl) (of_decide_eq_true (by kernel_rfl)) h0k hb (fun x hx => hW'.lt x (by first | (simpa using hx; done) | (simp [hx]; done)))) (trodAll_cons_mk (Below.trod (by kernel_rfl) (by kernel_rfl) (of_decide_eq_true (by kernel_rfl)) h1k hb (fun x hx => hW'.lt x (by first | (simpa using hx; done) | (simp [hx]; done)))) (trodAll_cons_mk (Below.trod (by kernel_rfl) (by kernel_rfl) (of_decide_eq_true (by kernel_rfl)) h2k hb (fun x hx => hW'.lt x (by first | (simpa using hx; done) | (simp [hx]; done)))) (trodAll_cons_mk (Below.trod (by kernel_rfl) (by kernel_rfl) (of_decide_eq_true (by kernel_rfl)) h3k hb (fun x hx => hW'.lt x (by first | (simpa using hx; done) | (simp [hx]; done)))) trodAll_mk0)))), rfl, hb.frame _, fun h => by cases h⟩
set_option maxRecDepth 100000 in
theorem lifted (os : Os) (started : os.Started) (H : Type) (enc : TypeId × Value → H) (F : Stop.Interp) :
    ReturnsInHanded {} Tryz.checked os 4 .any ((OpenSpec.ofChange Rows.auditWindowsSpec).preRow enc Tryz.prog Tryz.f4 Rows.auditWindowsRow.domain false Rows.auditWindowsRow.laid) (((OpenSpec.ofChange Rows.auditWindowsSpec).at F).post enc Tryz.prog Tryz.f4 false true false false) := by
  refine returnsInHanded_of_row (C := Tryz.checked) (s := OpenSpec.ofChange Rows.auditWindowsSpec) VRow.own started (by kernel_rfl) Tryz.func4
    (ChangeSpec.witness_shaped (enc := enc) (C := Tryz.checked) (os := os) (X := fun w _ => laidMetH Tryz.prog VRow.laidL w) false (World.laidAll Tryz.prog os VRow.laidL) #[.slice none 0 0, .agg #[.int .u8 0, .int .u8 0], .agg #[.int .u8 0, .int .u8 0], .agg #[.int .u8 0, .int .u8 0]] 8 (World.laidAll_os _ _ _)
      (VRow.wit_shaped os _) (by kernel_rfl) (by kernel_rfl) (by kernel_rfl) (VRow.wit_laid os _)) ?_
  intro W base args ds gs before hval hW _ _ _ hL hS _
  exact contract H enc W base args ds gs before hval hW hL hS
end Go.Proofs.YtfpfagmmdiohbaaGreatDoor.auditWindows
