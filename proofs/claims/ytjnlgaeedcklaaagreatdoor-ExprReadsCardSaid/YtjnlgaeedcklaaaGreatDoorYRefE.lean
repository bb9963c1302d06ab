/-
  The document's Macro, Parse and Normal.
-/
import Derived.Test.YtjnlgaeedcklaaaGreatDoorYRefD
import Derived.Test.YtjnlgaeedcklaaaGreatDoorXNormal
set_option linter.unusedVariables false
set_option linter.unusedSimpArgs false
namespace Go.Proofs.YtjnlgaeedcklaaaGreatDoor
open Go.RowKit

theorem mac_many : ∀ t ∈ macT, ¬ ∃ a w, Xs.words t = [(a, w)] ∧ w[0]? = some 64 := by
  intro t ht
  have h : ∀ t ∈ macT, (Xs.words t).length ≠ 1 := by decide +kernel
  rintro ⟨a, w, hw, -⟩
  exact h t ht (by rw [hw]; rfl)
theorem mac_in {w t : List UInt8} (h : Xs.macroText w = some t) : t ∈ macT := by
  obtain ⟨k, -, -, hk⟩ := (mac_look w).2 t h
  exact List.mem_of_getElem? hk
theorem mac_full : ∀ t ∈ macT, t.isEmpty = false := by decide +kernel

set_option maxRecDepth 100000 in
set_option maxHeartbeats 4000000 in
theorem ref7_Macro (s : ByteArray) (w : World) :
    Calls Tryz.prog 18 #[.string s] w fun e w' => e = .returned (retM (Xs.mac KX s.data.toList)) ∧ Below w.heap.size w w' := by
  have HTx := Lib.hid fun W => ref7_texts s W
  have hE := Blk.new w 25 zeroC
  have hB := (Below.refl w.heap.size w).alloc (Nat.le_refl _) (.cells zeroC 25)
  cases ht : Xs.macroText s.data.toList with
  | none =>
    rw [mac_none ht]
    rw [ht] at HTx
    have HT2 : Hid (∀ W, Calls Tryz.prog 47 #[.string s] W fun e w' => e = .returned (.string { data := #[] }) ∧ W = w') := Lib.hid HTx.out
    obtain ⟨ec, ef⟩ := hE.facts
    clear ht HTx
    go_enter Tryz.func18, Tryz.ntmps18
    go_wp2_with (go_at_call 47; (with_reducible refine (HT2.out _).mono ?_); rintro e w1 ⟨rfl, rfl⟩)
    exact bodyPost_ret (v := .tuple #[exV 0 0 0 0 0 0 false false, .bool false]) (by simp [results, Tryz.results18, go_sem, ec, ef]) rfl ⟨rfl, hB⟩
  | some t =>
    have hm := mac_in ht
    have hts : (⟨t.toArray⟩ : ByteArray).size ≤ 100000 := by
      have h := macT_small t hm
      show t.toArray.size ≤ 100000
      rw [List.size_toArray]; omega
    have hP := fun W => ref7_ParseR ⟨t.toArray⟩ hts (mac_many t hm) W
    rw [mac_some ht]
    rw [ht] at HTx
    obtain ⟨r, hr⟩ : ∃ r, Xs.read KX (Xs.words t) t.length = r := ⟨_, rfl⟩
    have hr' : Xs.read KX (Xs.words (ByteArray.mk t.toArray).data.toList) (ByteArray.mk t.toArray).size = r := hr
    rw [hr'] at hP
    rw [hr]
    have hne : (⟨t.toArray⟩ : ByteArray).toList.isEmpty = false := by rw [ByteArray.toList_eq]; exact mac_full t hm
    obtain ⟨x, p, er⟩ := r
    obtain ⟨T, hT⟩ : ∃ T : ByteArray, ⟨t.toArray⟩ = T := ⟨_, rfl⟩
    have HT2 : Hid (∀ W, Calls Tryz.prog 47 #[.string s] W fun e w' => e = .returned (.string T) ∧ W = w') := Lib.hid (by rw [← hT]; exact HTx.out)
    rw [hT] at hP hne
    have HP : Hid (∀ W, Calls Tryz.prog 14 #[.string T] W fun e w' => e = .returned (.tuple #[exV x.second x.minute x.hour x.day x.month x.week x.anyDay x.anyWeek, .int .i64 p, .int .i64 er]) ∧ Below W.heap.size W w') := Lib.hid hP
    have hne2 : (T.toList == []) = false := by
      rw [beq_eq_false_iff_ne]
      intro h
      rw [h] at hne
      cases hne
    clear hP hr hr' hT ht HTx hm hts
    go_enter Tryz.func18, Tryz.ntmps18
    go_wp2_with (first
      | (go_at_call 47; (with_reducible refine (HT2.out _).mono ?_); rintro e w1 ⟨rfl, rfl⟩)
      | (go_at_call 14; (with_reducible refine (HP.out _).mono ?_); rintro e w2 ⟨rfl, hb2⟩; replace hE := hE.below hb2 hE.lt; replace hB := hB.trans (hb2.mono hB.size); have hsz := hE.lt; obtain ⟨ec, ef⟩ := hE.facts))
    clear ec ef
    obtain ⟨ec, ef⟩ := ((hE.set8 (.int .u64 x.second) (.int .u64 x.minute) (.int .u64 x.hour) (.int .u64 x.day) (.int .u64 x.month) (.int .u64 x.week) (.bool x.anyDay) (.bool x.anyWeek)).alloc (.cells #[.int .u64 x.second, .int .u64 x.minute, .int .u64 x.hour, .int .u64 x.day, .int .u64 x.month, .int .u64 x.week, .bool x.anyDay, .bool x.anyWeek] 25)).facts
    have HBf := Lib.hid ((below_set8 hB (Nat.le_refl w.heap.size) (.int .u64 x.second) (.int .u64 x.minute) (.int .u64 x.hour) (.int .u64 x.day) (.int .u64 x.month) (.int .u64 x.week) (.bool x.anyDay) (.bool x.anyWeek)).alloc (by simp; omega) (.cells #[.int .u64 x.second, .int .u64 x.minute, .int .u64 x.hour, .int .u64 x.day, .int .u64 x.month, .int .u64 x.week, .bool x.anyDay, .bool x.anyWeek] 25))
    unfold put8 at ec ef HBf
    generalize World.alloc _ _ = WF at *
    exact bodyPost_ret (v := .tuple #[exV x.second x.minute x.hour x.day x.month x.week x.anyDay x.anyWeek, .bool true]) (by simp [results, Tryz.results18, go_sem, ec, ef]) rfl ⟨rfl, HBf.out⟩
end Go.Proofs.YtjnlgaeedcklaaaGreatDoor
