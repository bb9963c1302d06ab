/-
  The program's Macro: the expression that a macro stands for.
-/
import Derived.Test.YtjnlgaeedcklaaaGreatDoorXTabX
import Derived.Test.YtjnlgaeedcklaaaGreatDoorXRead
set_option linter.unusedVariables false
set_option linter.unusedSimpArgs false
namespace Go.Proofs.YtjnlgaeedcklaaaGreatDoor
open Go.RowKit Go.Maps

theorem blk_grown {w w' : World} {row : Option Nat} (hg : w.grownBy w' row) {b : Nat} {t : TypeId} {cs : Array Value} (h : Blk w b t cs) (hne : some b ≠ row) : Blk w' b t cs := (hg.block b h.lt hne).trans h

/-- An element of a map's literal, at the operation. -/
theorem wpList_insert_own {H : Type} {P : Program} (w : World) {ops : Array Oper} {rest : List Oper} {o : Oper} {a : Act} {Q : Exit → Act → World → Prop}
    (hg : o.guard = none) (m x v : Operand) (t : TypeId) (hop : o.op = Op.insert t m x v)
    (k e : TypeId) (K : Keyed P k) (ht : P.underlying t = some (.map k e)) (R : Value → Option (DataW H × List MemPlace)) (b n : Nat) (D : DataW H)
    (hm : a.eval m = .map (some b)) (hown : w.ownsMap P k R b n D) (hn : n < maxLen) (key val : Value) (kl : Lit) (hx : a.eval x = key) (hv : a.eval v = val) (hkey : keyOf P k key = some kl)
    (d : DataW H) (ps : List MemPlace) (hval : R val = some (d, ps))
    (hK : ∀ w', w'.ownsMap P k R b (n + 1) (D.put kl d) → w.grownBy w' (some b) → wpList P ops Q rest (a.put o.dst undef) w') :
    wpList P ops Q (o :: rest) a w := by
  refine wpList_plain hg fun K' hK' => ?_
  obtain ⟨w', hrun, r1, r2⟩ := hown.update K ht hn hkey hval
  unfold Oper.wp
  simp [execOp, hop, hm, hx, hv, hrun, Result.andThen]
  exact hK' _ _ (hK w' r1 r2)

set_option maxRecDepth 100000 in
set_option maxHeartbeats 8000000 in
theorem expr_Macro (s : ByteArray) (hs : s.size ≤ 100000) (w : World) (hX : TabX w) :
    Calls Tryz.prog 17 #[.string s] w fun e w' => e = .returned (retM (Xs.mac KX s.data.toList)) ∧ Below w.heap.size w w' := by
  have HX := Lib.hid hX; clear hX
  obtain ⟨hh, hl⟩ := mac_look s.data.toList
  have hmm := @run_makeMap Tryz.prog
  have hkey := key_at s hs
  have hown := World.ownsMap_made (w.alloc (.cells zeroC 25)) Tryz.prog 9 (plainElem (H := Unit) Tryz.prog 3)
  have hB := ((Below.refl w.heap.size w).alloc (Nat.le_refl _) (.cells zeroC 25)).alloc (by simp) (.map #[] 0)
  have hE := (Blk.new w 25 zeroC).alloc (.map #[] 0)
  rw [World.size_alloc] at hown
  cases ht : Xs.macroText s.data.toList with
  | none =>
    rw [ht] at hh
    rw [mac_none ht]
    clear hl ht
    have hh' : has macD (.string s.data.toList) = false := hh
    clear hh
    go_enter Tryz.func17, Tryz.ntmps17
    go_wp2_with (first
      | (at_lookup; refine wpList_lookup_own_ok_int _ rfl _ _ 97 rfl 9 3 .i64 str_keyed Tryz.underlying97 Tryz.underlying3 (zero_int _) (w.heap.size + 1) 9 macD rfl hown _ _ rfl hkey ?_; intro c hat hwc; obtain ⟨ec, ef⟩ := hE.facts)
      | (refine wpList_insert_own _ rfl _ _ _ 97 rfl 9 3 str_keyed Tryz.underlying97 _ (w.heap.size + 1) _ _ rfl hown (by unfold maxLen; decide) _ _ _ rfl rfl (key_at _ (by decide)) _ [] (plainElem_int Tryz.underlying3 (by decide)) ?_; intro w1 hown1 hgrow1; replace hown := hown1; replace hB := hB.grown hgrow1 hB.size (fun j hj => by cases hj; exact Nat.le_succ _); replace hE := blk_grown hgrow1 hE (by simp); clear hown1 hgrow1))
    refine bodyPost_ret (v := .tuple #[exV 0 0 0 0 0 0 false false, .bool false]) (by simp [results, Tryz.results17, go_sem, ec, ef]) rfl ⟨rfl, below_set8 hB (Nat.le_refl _) _ _ _ _ _ _ _ _⟩
  | some t =>
    rw [ht] at hh
    rw [mac_some ht]
    obtain ⟨k, hk7, hat0, hkt⟩ := hl t ht
    have hh' : has macD (.string s.data.toList) = true := hh
    have hts : (⟨t.toArray⟩ : ByteArray).size ≤ 100000 := by
      have h := macT_small t (List.mem_of_getElem? hkt)
      show t.toArray.size ≤ 100000
      rw [List.size_toArray]; omega
    have hR := fun W hT => expr_read ⟨t.toArray⟩ hts W hT
    obtain ⟨r, hr⟩ : ∃ r, Xs.read KX (Xs.words t) t.length = r := ⟨_, rfl⟩
    have hr' : Xs.read KX (Xs.words (ByteArray.mk t.toArray).data.toList) (ByteArray.mk t.toArray).size = r := hr
    rw [hr'] at hR
    rw [hr]
    clear hr hr' hl ht hh hts
    obtain ⟨x, p, er⟩ := r
    have HR : Hid (∀ W, Tabs W → Calls Tryz.prog 42 #[.string ⟨t.toArray⟩] W fun e w' => e = .returned (.tuple #[exV x.second x.minute x.hour x.day x.month x.week x.anyDay x.anyWeek, .int .i64 p, .int .i64 er]) ∧ Below W.heap.size W w') := Lib.hid hR
    have HTX := Lib.hid (HX.out.txt k t hkt)
    clear hR hkt
    obtain ⟨T, hT⟩ : ∃ T : ByteArray, ⟨t.toArray⟩ = T := ⟨_, rfl⟩
    rw [hT] at HR HTX
    clear hT
    go_enter Tryz.func17, Tryz.ntmps17
    go_wp2_with (first
      | (go_at_call 42; (with_reducible refine (HR.out _ (HX.out.tabs.grow hB)).mono ?_); rintro e w2 ⟨rfl, hb2⟩; replace hE := hE.below hb2 hE.lt; replace hB := hB.trans (hb2.mono hB.size); have hsz := hE.lt; obtain ⟨ec, ef⟩ := hE.facts)
      | (at_lookup; refine wpList_lookup_own_ok_int _ rfl _ _ 97 rfl 9 3 .i64 str_keyed Tryz.underlying97 Tryz.underlying3 (zero_int _) (w.heap.size + 1) 9 macD rfl hown _ _ rfl hkey ?_; intro c hat hwc; obtain rfl : c = (k : Int) := by (rw [hat0] at hat; injection hat with hat; injection hat with _ hat; exact hat.symm)
         have hct : _ = some (Value.string T) := (hB.cell (p := ⟨0, k, none⟩) HX.out.lt).trans HTX.out)
      | (refine wpList_insert_own _ rfl _ _ _ 97 rfl 9 3 str_keyed Tryz.underlying97 _ (w.heap.size + 1) _ _ rfl hown (by unfold maxLen; decide) _ _ _ rfl rfl (key_at _ (by decide)) _ [] (plainElem_int Tryz.underlying3 (by decide)) ?_; intro w1 hown1 hgrow1; replace hown := hown1; replace hB := hB.grown hgrow1 hB.size (fun j hj => by cases hj; exact Nat.le_succ _); replace hE := blk_grown hgrow1 hE (by simp); clear hown1 hgrow1))
    clear ec ef hown hat hct hwc hmm hkey hat0 hh'
    obtain ⟨ec, ef⟩ := ((hE.set8 (.int .u64 x.second) (.int .u64 x.minute) (.int .u64 x.hour) (.int .u64 x.day) (.int .u64 x.month) (.int .u64 x.week) (.bool x.anyDay) (.bool x.anyWeek)).alloc (.cells #[.int .u64 x.second, .int .u64 x.minute, .int .u64 x.hour, .int .u64 x.day, .int .u64 x.month, .int .u64 x.week, .bool x.anyDay, .bool x.anyWeek] 25)).facts
    have HBf := Lib.hid ((below_set8 hB (Nat.le_refl w.heap.size) (.int .u64 x.second) (.int .u64 x.minute) (.int .u64 x.hour) (.int .u64 x.day) (.int .u64 x.month) (.int .u64 x.week) (.bool x.anyDay) (.bool x.anyWeek)).alloc (by simp; omega) (.cells #[.int .u64 x.second, .int .u64 x.minute, .int .u64 x.hour, .int .u64 x.day, .int .u64 x.month, .int .u64 x.week, .bool x.anyDay, .bool x.anyWeek] 25))
    unfold put8 at ec ef HBf
    generalize World.alloc _ _ = WF at *
    exact bodyPost_ret (v := .tuple #[exV x.second x.minute x.hour x.day x.month x.week x.anyDay x.anyWeek, .bool true]) (by simp [results, Tryz.results17, go_sem, ec, ef]) rfl ⟨rfl, HBf.out⟩
end Go.Proofs.YtjnlgaeedcklaaaGreatDoor
