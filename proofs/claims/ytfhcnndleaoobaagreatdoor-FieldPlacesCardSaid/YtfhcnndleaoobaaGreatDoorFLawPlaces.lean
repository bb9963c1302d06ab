/-
  FieldPlaces: the walk, the row, the card.
-/
import Derived.Test.YtfhcnndleaoobaaGreatDoorFRow
import Derived.Test.YtfhcnndleaoobaaGreatDoorFSixPlain
import Derived.Test.YtfhcnndleaoobaaGreatDoorFPlain3
import Derived.Test.YtfhcnndleaoobaaGreatDoorFDig
import Derived.ChangeMaps5
set_option linter.unusedVariables false
set_option linter.unusedSimpArgs false
namespace Go.Proofs.YtfhcnndleaoobaaGreatDoor.fieldPlaces
open Go.ChangeShapes Go.WideShapes Go.ChangeAt Go.RowKit

theorem take_extract (s : ByteArray) (n : Nat) : (s.extract 0 n).data.toList = s.data.toList.take n := by
  simp [ByteArray.data_extract, Array.toList_extract, List.extract_eq_take_drop]
set_option maxRecDepth 100000 in
set_option maxHeartbeats 16000000 in
theorem walk (a0 : Int) (s t : ByteArray) (w0 : (Lit.int .u8 a0).wf = true) (w1 : s.size ≤ maxLen) (w2 : t.size ≤ maxLen) (w : World) (hT : Tabs w) :
    Calls Tryz.prog 12 #[.int .u8 a0, .string s, .string t] w fun e w' => e = .returned (.bool true) ∧ Below w.heap.size w w' := by
  obtain ⟨n, rfl, hn⟩ := u8_nat w0
  obtain ⟨lo, hi, l, week, hk, hsix⟩ := six_ok n hn
  obtain ⟨f1, f2, f3, f4, f5, f6, f7, f8⟩ := hk.facts
  have hw1 : s.size ≤ 9223372036854775807 := w1
  have hw2 : t.size ≤ 9223372036854775807 := w2
  have H6 := Lib.hid hsix
  have HT := Lib.hid hT
  by_cases hls : 300 < s.size
  · skip
    clear hsix hT hk f1 f2 f3 f4 f5 f6 f7 f8 w0 w1 w2 
    generalize Fs.full (kind lo hi l week) = fu at *
    generalize hhi : hi = hi' at *
    go_enter Tryz.func12, Tryz.ntmps12
    go_wp2_with (first
      | (go_at_call 32; (with_reducible refine (H6.out _ HT.out).mono ?_); rintro e x1 ⟨A, c, rfl, hb1, hk1⟩
         have B1 := Lib.hid hb1; have K1 := Lib.hid hk1; have T1 := Lib.hid (HT.out.grow hb1); clear hb1 hk1)
      | (go_at_call 14; (with_reducible refine (works_true _ (T1.out.alloc _)).mono ?_); rintro e x2 ⟨rfl, hb2⟩
         have B2 := Lib.hid ((B1.out.alloc B1.out.size _).trans (hb2.mono (by have := B1.out.size; simp; omega))); clear hb2))
    all_goals (go_ret; exact ⟨rfl, B2.out⟩)
  by_cases hlt : 50 < t.size
  · skip
    clear hsix hT hk f1 f2 f3 f4 f5 f6 f7 f8 w0 w1 w2 
    generalize Fs.full (kind lo hi l week) = fu at *
    generalize hhi : hi = hi' at *
    go_enter Tryz.func12, Tryz.ntmps12
    go_wp2_with (first
      | (go_at_call 32; (with_reducible refine (H6.out _ HT.out).mono ?_); rintro e x1 ⟨A, c, rfl, hb1, hk1⟩
         have B1 := Lib.hid hb1; have K1 := Lib.hid hk1; have T1 := Lib.hid (HT.out.grow hb1); clear hb1 hk1)
      | (go_at_call 14; (with_reducible refine (works_true _ (T1.out.alloc _)).mono ?_); rintro e x2 ⟨rfl, hb2⟩
         have B2 := Lib.hid ((B1.out.alloc B1.out.size _).trans (hb2.mono (by have := B1.out.size; simp; omega))); clear hb2))
    all_goals (go_ret; exact ⟨rfl, B2.out⟩)
  have hs3 : s.size ≤ 100000 := by omega
  have hfs := Fs.parse_facts f1 s.data.toList
  have hpl := Fs.places_plain f1 s.data.toList
  rcases hp : Fs.parse (kind lo hi l week) s.data.toList with ⟨S, star, x, e⟩
  rw [hp] at hfs hpl
  simp only at hfs hpl
  have e1 : s.data.toList.length = s.size := rfl
  rw [e1] at hfs hpl
  have hee : e = 0 ∨ e = 2 ∨ e = 10 := by omega
  have hx : x ≤ s.size := by omega
  rcases hee with rfl | rfl | rfl
  · clear hfs hpl
    have G1 : Hid (∀ A c W, KindAt W (n % 6) lo hi A c l week → Tabs W → Calls Tryz.prog 15 #[.agg #[.int .i64 lo, .int .i64 hi, .slice A l.length c, .bool week], .string s] W fun e w' => e = .returned (.tuple #[.int .u64 S, .bool star, .int .i64 x, .int .i64 0]) ∧ Below W.heap.size W w') :=
      Lib.hid fun A c W h hT => by have := kd_Parse h hT s hs3; rw [hp] at this; exact this
    clear hsix hT hk f1 f2 f3 f4 f5 f6 f7 f8 w0 w1 w2 hp
    generalize Fs.full (kind lo hi l week) = fu at *
    generalize hhi : hi = hi' at *
    go_enter Tryz.func12, Tryz.ntmps12
    go_wp2_with (first
      | (go_at_call 32; (with_reducible refine (H6.out _ HT.out).mono ?_); rintro e x1 ⟨A, c, rfl, hb1, hk1⟩
         have B1 := Lib.hid hb1; have K1 := Lib.hid hk1; have T1 := Lib.hid (HT.out.grow hb1); clear hb1 hk1)
      | (go_at_call 15; (with_reducible refine (G1.out _ _ _ (K1.out.alloc _) (T1.out.alloc _)).mono ?_); rintro e x2 ⟨rfl, hb2⟩
         obtain ⟨hc2, hf2⟩ := bcell hb2; have s2 : x1.heap.size < x2.heap.size := by have := hb2.size; simp at this; omega
         have B2 := Lib.hid ((B1.out.alloc B1.out.size _).trans (hb2.mono (by have := B1.out.size; simp; omega))); have K2 := Lib.hid ((K1.out.alloc _).grow hb2); have T2 := Lib.hid ((T1.out.alloc _).grow hb2); clear hb2)
      | (go_at_call 14; (with_reducible refine (works_true _ T2.out).mono ?_); rintro e x3 ⟨rfl, hb2⟩
         have B3 := Lib.hid (B2.out.trans (hb2.mono B2.out.size)); clear hb2))
    all_goals (go_ret; exact ⟨rfl, B3.out⟩)
  · clear hfs hpl
    have G1 : Hid (∀ A c W, KindAt W (n % 6) lo hi A c l week → Tabs W → Calls Tryz.prog 15 #[.agg #[.int .i64 lo, .int .i64 hi, .slice A l.length c, .bool week], .string s] W fun e w' => e = .returned (.tuple #[.int .u64 S, .bool star, .int .i64 x, .int .i64 2]) ∧ Below W.heap.size W w') :=
      Lib.hid fun A c W h hT => by have := kd_Parse h hT s hs3; rw [hp] at this; exact this
    clear hsix hT hk f1 f2 f3 f4 f5 f6 f7 f8 w0 w1 w2 hp
    generalize Fs.full (kind lo hi l week) = fu at *
    generalize hhi : hi = hi' at *
    go_enter Tryz.func12, Tryz.ntmps12
    go_wp2_with (first
      | (go_at_call 32; (with_reducible refine (H6.out _ HT.out).mono ?_); rintro e x1 ⟨A, c, rfl, hb1, hk1⟩
         have B1 := Lib.hid hb1; have K1 := Lib.hid hk1; have T1 := Lib.hid (HT.out.grow hb1); clear hb1 hk1)
      | (go_at_call 15; (with_reducible refine (G1.out _ _ _ (K1.out.alloc _) (T1.out.alloc _)).mono ?_); rintro e x2 ⟨rfl, hb2⟩
         obtain ⟨hc2, hf2⟩ := bcell hb2; have s2 : x1.heap.size < x2.heap.size := by have := hb2.size; simp at this; omega
         have B2 := Lib.hid ((B1.out.alloc B1.out.size _).trans (hb2.mono (by have := B1.out.size; simp; omega))); have K2 := Lib.hid ((K1.out.alloc _).grow hb2); have T2 := Lib.hid ((T1.out.alloc _).grow hb2); clear hb2)
      | (go_at_call 14; (with_reducible refine (works_true _ T2.out).mono ?_); rintro e x3 ⟨rfl, hb2⟩
         have B3 := Lib.hid (B2.out.trans (hb2.mono B2.out.size)); clear hb2))
    all_goals (go_ret; exact ⟨rfl, B3.out⟩)
  · clear hfs
    have G1 : Hid (∀ A c W, KindAt W (n % 6) lo hi A c l week → Tabs W → Calls Tryz.prog 15 #[.agg #[.int .i64 lo, .int .i64 hi, .slice A l.length c, .bool week], .string s] W fun e w' => e = .returned (.tuple #[.int .u64 S, .bool star, .int .i64 x, .int .i64 10]) ∧ Below W.heap.size W w') :=
      Lib.hid fun A c W h hT => by have := kd_Parse h hT s hs3; rw [hp] at this; exact this
    have et : ∀ m, (s.extract 0 m ++ t).size ≤ 100000 := by intro m; rw [ByteArray.size_append, ByteArray.size_extract]; omega
    have e0 : ∀ m, (s.extract 0 m).size ≤ 100000 := by intro m; rw [ByteArray.size_extract]; omega
    have e9 : ∀ m, (s.extract 0 m ++ (⟨#[49]⟩ : ByteArray)).size ≤ 100000 := by intro m; rw [ByteArray.size_append, ByteArray.size_extract]; show _ + 1 ≤ _; omega
    have q1 : ∀ m, (s.extract 0 m ++ t).data.toList = s.data.toList.take m ++ t.data.toList := by intro m; rw [ByteArray.data_append, Array.toList_append, take_extract]
    have q9 : ∀ m, (s.extract 0 m ++ (⟨#[49]⟩ : ByteArray)).data.toList = s.data.toList.take m ++ [49] := by intro m; rw [ByteArray.data_append, Array.toList_append, take_extract]
    have hfl := Fs.parse_facts f1 (s.data.toList.take x)
    have hgl := Fs.parse_facts f1 (s.data.toList.take x ++ [49])
    by_cases hxs : x < s.size
    · have hg := getElem_data s x hxs
      have hxe : ¬ x = s.size := by omega
      rcases (by omega : (97 ≤ s[x].toNat ∧ s[x].toNat ≤ 122) ∨ (65 ≤ s[x].toNat ∧ s[x].toNat ≤ 90) ∨ s[x].toNat < 65 ∨ (90 < s[x].toNat ∧ s[x].toNat < 97) ∨ 122 < s[x].toNat) with hL | hL | hL | hL | hL
      · skip
        clear hsix hT hk f1 f2 f3 f4 f5 f6 f7 f8 w0 w1 w2 hp et e0 e9 q1 q9 hfl hgl hpl
        generalize Fs.full (kind lo hi l week) = fu at *
        generalize hhi : hi = hi' at *
        go_enter Tryz.func12, Tryz.ntmps12
        go_wp2_with (first
          | (go_at_call 32; (with_reducible refine (H6.out _ HT.out).mono ?_); rintro e x1 ⟨A, c, rfl, hb1, hk1⟩
             have B1 := Lib.hid hb1; have K1 := Lib.hid hk1; have T1 := Lib.hid (HT.out.grow hb1); clear hb1 hk1)
          | (go_at_call 15; (with_reducible refine (G1.out _ _ _ (K1.out.alloc _) (T1.out.alloc _)).mono ?_); rintro e x2 ⟨rfl, hb2⟩
             obtain ⟨hc2, hf2⟩ := bcell hb2; have s2 : x1.heap.size < x2.heap.size := by have := hb2.size; simp at this; omega
             have B2 := Lib.hid ((B1.out.alloc B1.out.size _).trans (hb2.mono (by have := B1.out.size; simp; omega))); have K2 := Lib.hid ((K1.out.alloc _).grow hb2); have T2 := Lib.hid ((T1.out.alloc _).grow hb2); clear hb2)
          | (go_at_call 14; (with_reducible refine (works_true _ T2.out).mono ?_); rintro e x3 ⟨rfl, hb2⟩
             have B3 := Lib.hid (B2.out.trans (hb2.mono B2.out.size)); clear hb2))
        all_goals (go_ret; exact ⟨rfl, B3.out⟩)
      · skip
        clear hsix hT hk f1 f2 f3 f4 f5 f6 f7 f8 w0 w1 w2 hp et e0 e9 q1 q9 hfl hgl hpl
        generalize Fs.full (kind lo hi l week) = fu at *
        generalize hhi : hi = hi' at *
        go_enter Tryz.func12, Tryz.ntmps12
        go_wp2_with (first
          | (go_at_call 32; (with_reducible refine (H6.out _ HT.out).mono ?_); rintro e x1 ⟨A, c, rfl, hb1, hk1⟩
             have B1 := Lib.hid hb1; have K1 := Lib.hid hk1; have T1 := Lib.hid (HT.out.grow hb1); clear hb1 hk1)
          | (go_at_call 15; (with_reducible refine (G1.out _ _ _ (K1.out.alloc _) (T1.out.alloc _)).mono ?_); rintro e x2 ⟨rfl, hb2⟩
             obtain ⟨hc2, hf2⟩ := bcell hb2; have s2 : x1.heap.size < x2.heap.size := by have := hb2.size; simp at this; omega
             have B2 := Lib.hid ((B1.out.alloc B1.out.size _).trans (hb2.mono (by have := B1.out.size; simp; omega))); have K2 := Lib.hid ((K1.out.alloc _).grow hb2); have T2 := Lib.hid ((T1.out.alloc _).grow hb2); clear hb2)
          | (go_at_call 14; (with_reducible refine (works_true _ T2.out).mono ?_); rintro e x3 ⟨rfl, hb2⟩
             have B3 := Lib.hid (B2.out.trans (hb2.mono B2.out.size)); clear hb2))
        all_goals (go_ret; exact ⟨rfl, B3.out⟩)
      · have hlet : ∀ c, s.data.toList[x]? = some c → Fs.letterB c = false := by
          intro c hc
          rw [hg] at hc; injection hc with hc; subst hc
          simp only [Fs.letterB, Bool.or_eq_false_iff, Bool.and_eq_false_iff, decide_eq_false_iff_not]
          omega
        clear hg
        obtain ⟨pl1, pl2, pl3⟩ := hpl x rfl rfl hlet
        rcases hr : Fs.parse (kind lo hi l week) (s.data.toList.take x) with ⟨b, is, y, f⟩
        rw [hr] at hfl pl3
        simp only at hfl pl3
        have hff : f = 0 ∨ f = 2 ∨ f = 10 := by omega
        have pl2 := pl2 hxs t.data.toList
        rcases hu : Fs.parse (kind lo hi l week) ((s.data.toList.take x) ++ [49]) with ⟨b', is', y', g⟩
        rw [hu] at hgl pl3
        simp only at hgl pl3
        have hgg : g = 0 ∨ g = 2 ∨ g = 10 := by omega
        clear hfl hgl
        have G2 : Hid (∀ A c W, KindAt W (n % 6) lo hi A c l week → Tabs W → Calls Tryz.prog 15 #[.agg #[.int .i64 lo, .int .i64 hi, .slice A l.length c, .bool week], .string (s.extract 0 (x + 1) ++ t)] W fun e w' => e = .returned (.tuple #[.int .u64 0, .bool false, .int .i64 x, .int .i64 10]) ∧ Below W.heap.size W w') :=
          Lib.hid fun A c W h hT => by have := kd_Parse h hT (s.extract 0 (x + 1) ++ t) (et _); rw [q1, pl2] at this; exact this
        have G3 : Hid (∀ A c W, KindAt W (n % 6) lo hi A c l week → Tabs W → Calls Tryz.prog 15 #[.agg #[.int .i64 lo, .int .i64 hi, .slice A l.length c, .bool week], .string (s.extract 0 x)] W fun e w' => e = .returned (.tuple #[.int .u64 b, .bool is, .int .i64 y, .int .i64 f]) ∧ Below W.heap.size W w') :=
          Lib.hid fun A c W h hT => by have := kd_Parse h hT (s.extract 0 x) (e0 _); rw [take_extract, hr] at this; exact this
        have G4 : Hid (∀ A c W, KindAt W (n % 6) lo hi A c l week → Tabs W → Calls Tryz.prog 15 #[.agg #[.int .i64 lo, .int .i64 hi, .slice A l.length c, .bool week], .string (s.extract 0 x ++ (⟨#[49]⟩ : ByteArray))] W fun e w' => e = .returned (.tuple #[.int .u64 b', .bool is', .int .i64 y', .int .i64 g]) ∧ Below W.heap.size W w') :=
          Lib.hid fun A c W h hT => by have := kd_Parse h hT (s.extract 0 x ++ (⟨#[49]⟩ : ByteArray)) (e9 _); rw [q9, hu] at this; exact this
        clear hu hp et e0 e9 q1 q9 hpl hlet hr pl1 pl2
        rcases hff with rfl | rfl | rfl
        · clear hgg pl3
          have a1 : IntKind.i64.wrap ((x : Int) + 1) = (x : Int) + 1 := IntWalk.i64_in _ (by omega)
          have a2 : (x : Int) ≤ (s.size : Int) := by omega
          have a3 : (x : Int) + 1 ≤ (s.size : Int) := by omega
          have a4 : (0 : Int) ≤ (x : Int) := by omega
          have a5 : (0 : Int) ≤ (x : Int) + 1 := by omega
          have a6 : ((x : Int) + 1).toNat = x + 1 := by omega
          have a7 := str_add (s.extract 0 (x + 1)) t (by rw [ByteArray.size_extract]; omega)
          have a8 := str_add (s.extract 0 x) (⟨#[49]⟩ : ByteArray) (by rw [ByteArray.size_extract]; show _ + 1 ≤ _; omega)
          clear hsix hT hk f1 f2 f3 f4 f5 f6 f7 f8 w0 w1 w2
          generalize Fs.full (kind lo hi l week) = fu at *
          generalize hhi : hi = hi' at *
          go_enter Tryz.func12, Tryz.ntmps12
          go_wp2_with (first
            | (go_at_call 32; (with_reducible refine (H6.out _ HT.out).mono ?_); rintro e x1 ⟨A, c, rfl, hb1, hk1⟩
               have B1 := Lib.hid hb1; have K1 := Lib.hid hk1; have T1 := Lib.hid (HT.out.grow hb1); clear hb1 hk1)
            | (go_at_call 15; (with_reducible refine (G1.out _ _ _ (K1.out.alloc _) (T1.out.alloc _)).mono ?_); rintro e x2 ⟨rfl, hb2⟩
               obtain ⟨hc2, hf2⟩ := bcell hb2; have s2 : x1.heap.size < x2.heap.size := by have := hb2.size; simp at this; omega
               have B2 := Lib.hid ((B1.out.alloc B1.out.size _).trans (hb2.mono (by have := B1.out.size; simp; omega))); have K2 := Lib.hid ((K1.out.alloc _).grow hb2); have T2 := Lib.hid ((T1.out.alloc _).grow hb2); clear hb2))
          have ca2 : x2.cell? ⟨x1.heap.size, 0, none⟩ = some (.int .i64 lo) := (hc2 _ 0 (by simp)).trans (by rw [World.cell?_alloc_at _ _ _ _ rfl]; rfl)
          have cb2 : x2.cell? ⟨x1.heap.size, 1, none⟩ = some (.int .i64 hi') := (hc2 _ 1 (by simp)).trans (by rw [World.cell?_alloc_at _ _ _ _ rfl]; rfl)
          have cc2 : x2.cell? ⟨x1.heap.size, 2, none⟩ = some (.slice A l.length c) := (hc2 _ 2 (by simp)).trans (by rw [World.cell?_alloc_at _ _ _ _ rfl]; rfl)
          have cd2 : x2.cell? ⟨x1.heap.size, 3, none⟩ = some (.bool week) := (hc2 _ 3 (by simp)).trans (by rw [World.cell?_alloc_at _ _ _ _ rfl]; rfl)
          clear hc2 hf2
          have hB := B2.out.drew; have hK := K2.out.grow (Below.refl x2.heap.size x2).drew; have hTT := T2.out.drew
          clear B2 K2 T2
          have B2 := Lib.hid hB; have K2 := Lib.hid hK; have T2 := Lib.hid hTT
          clear hB hK hTT
          go_region_held3 (fun w' => w'.cell? ⟨x1.heap.size, 0, none⟩ = some (.int .i64 lo) ∧ w'.cell? ⟨x1.heap.size, 1, none⟩ = some (.int .i64 hi') ∧ w'.cell? ⟨x1.heap.size, 2, none⟩ = some (.slice A l.length c) ∧ w'.cell? ⟨x1.heap.size, 3, none⟩ = some (.bool week)) (first | (exact ⟨ca3, cb3, cc3, cd3⟩) | (exact ⟨ca2, cb2, cc2, cd2⟩) | go_keep)
            (first
              | (go_at_call 15; (with_reducible refine (G2.out _ _ _ K2.out T2.out).mono ?_); rintro e x3 ⟨rfl, hb2⟩
                 have B3 := Lib.hid (B2.out.trans (hb2.mono B2.out.size)); have K3 := Lib.hid (K2.out.grow hb2); have T3 := Lib.hid (T2.out.grow hb2)
                 have s3 : x1.heap.size < x3.heap.size := by have h9 := hb2.size; have h8 : (World.drew x2).heap.size = x2.heap.size := rfl; omega
                 have ca3 := (hb2.cell (p := ⟨x1.heap.size, 0, none⟩) s2).trans ca2; have cb3 := (hb2.cell (p := ⟨x1.heap.size, 1, none⟩) s2).trans cb2; have cc3 := (hb2.cell (p := ⟨x1.heap.size, 2, none⟩) s2).trans cc2; have cd3 := (hb2.cell (p := ⟨x1.heap.size, 3, none⟩) s2).trans cd2
                 clear hb2))
          go_wp2_with (first
            | (go_at_call 14; (with_reducible refine (works_true _ T3.out).mono ?_); rintro e x4 ⟨rfl, hb2⟩
               have B4 := Lib.hid (B3.out.trans (hb2.mono B3.out.size)); clear hb2))
          have hB := B3.out.drew; have hK := K3.out.grow (Below.refl x3.heap.size x3).drew; have hTT := T3.out.drew
          clear B3 K3 T3
          have B3 := Lib.hid hB; have K3 := Lib.hid hK; have T3 := Lib.hid hTT
          clear hB hK hTT
          go_region_held3 (fun w' => w'.cell? ⟨x1.heap.size, 0, none⟩ = some (.int .i64 lo) ∧ w'.cell? ⟨x1.heap.size, 1, none⟩ = some (.int .i64 hi') ∧ w'.cell? ⟨x1.heap.size, 2, none⟩ = some (.slice A l.length c) ∧ w'.cell? ⟨x1.heap.size, 3, none⟩ = some (.bool week)) (first | (exact ⟨ca4, cb4, cc4, cd4⟩) | (exact ⟨ca3, cb3, cc3, cd3⟩) | go_keep)
            (first
              | (go_at_call 15; (with_reducible refine (G3.out _ _ _ K3.out T3.out).mono ?_); rintro e x4 ⟨rfl, hb2⟩
                 have B4 := Lib.hid (B3.out.trans (hb2.mono B3.out.size)); have K4 := Lib.hid (K3.out.grow hb2); have T4 := Lib.hid (T3.out.grow hb2)
                 have s4 : x1.heap.size < x4.heap.size := by have h9 := hb2.size; have h8 : (World.drew x3).heap.size = x3.heap.size := rfl; omega
                 have ca4 := (hb2.cell (p := ⟨x1.heap.size, 0, none⟩) s3).trans ca3; have cb4 := (hb2.cell (p := ⟨x1.heap.size, 1, none⟩) s3).trans cb3; have cc4 := (hb2.cell (p := ⟨x1.heap.size, 2, none⟩) s3).trans cc3; have cd4 := (hb2.cell (p := ⟨x1.heap.size, 3, none⟩) s3).trans cd3
                 clear hb2))
          go_wp2_with (first
            | (go_at_call 14; (with_reducible refine (works_true _ T4.out).mono ?_); rintro e x5 ⟨rfl, hb2⟩
               have B5 := Lib.hid (B4.out.trans (hb2.mono B4.out.size)); clear hb2))
          have hB := B4.out.drew; have hK := K4.out.grow (Below.refl x4.heap.size x4).drew; have hTT := T4.out.drew
          clear B4 K4 T4
          have B4 := Lib.hid hB; have K4 := Lib.hid hK; have T4 := Lib.hid hTT
          clear hB hK hTT
          go_region_held3 (fun w' => w'.cell? ⟨x1.heap.size, 0, none⟩ = some (.int .i64 lo) ∧ w'.cell? ⟨x1.heap.size, 1, none⟩ = some (.int .i64 hi') ∧ w'.cell? ⟨x1.heap.size, 2, none⟩ = some (.slice A l.length c) ∧ w'.cell? ⟨x1.heap.size, 3, none⟩ = some (.bool week)) (first | (exact ⟨ca5, cb5, cc5, cd5⟩) | (exact ⟨ca4, cb4, cc4, cd4⟩) | go_keep)
            (first
              | (go_at_call 15; (with_reducible refine (G4.out _ _ _ K4.out T4.out).mono ?_); rintro e x5 ⟨rfl, hb2⟩
                 have B5 := Lib.hid (B4.out.trans (hb2.mono B4.out.size)); have K5 := Lib.hid (K4.out.grow hb2); have T5 := Lib.hid (T4.out.grow hb2)
                 have s5 : x1.heap.size < x5.heap.size := by have h9 := hb2.size; have h8 : (World.drew x4).heap.size = x4.heap.size := rfl; omega
                 have ca5 := (hb2.cell (p := ⟨x1.heap.size, 0, none⟩) s4).trans ca4; have cb5 := (hb2.cell (p := ⟨x1.heap.size, 1, none⟩) s4).trans cb4; have cc5 := (hb2.cell (p := ⟨x1.heap.size, 2, none⟩) s4).trans cc4; have cd5 := (hb2.cell (p := ⟨x1.heap.size, 3, none⟩) s4).trans cd4
                 clear hb2))
          go_wp2_with (first
            | (go_at_call 14; (with_reducible refine (works_true _ T5.out).mono ?_); rintro e x6 ⟨rfl, hb2⟩
               have B6 := Lib.hid (B5.out.trans (hb2.mono B5.out.size)); clear hb2))
          all_goals (go_ret; exact ⟨rfl, B6.out⟩)
        · clear hgg pl3
          have a1 : IntKind.i64.wrap ((x : Int) + 1) = (x : Int) + 1 := IntWalk.i64_in _ (by omega)
          have a2 : (x : Int) ≤ (s.size : Int) := by omega
          have a3 : (x : Int) + 1 ≤ (s.size : Int) := by omega
          have a4 : (0 : Int) ≤ (x : Int) := by omega
          have a5 : (0 : Int) ≤ (x : Int) + 1 := by omega
          have a6 : ((x : Int) + 1).toNat = x + 1 := by omega
          have a7 := str_add (s.extract 0 (x + 1)) t (by rw [ByteArray.size_extract]; omega)
          have a8 := str_add (s.extract 0 x) (⟨#[49]⟩ : ByteArray) (by rw [ByteArray.size_extract]; show _ + 1 ≤ _; omega)
          clear hsix hT hk f1 f2 f3 f4 f5 f6 f7 f8 w0 w1 w2
          generalize Fs.full (kind lo hi l week) = fu at *
          generalize hhi : hi = hi' at *
          go_enter Tryz.func12, Tryz.ntmps12
          go_wp2_with (first
            | (go_at_call 32; (with_reducible refine (H6.out _ HT.out).mono ?_); rintro e x1 ⟨A, c, rfl, hb1, hk1⟩
               have B1 := Lib.hid hb1; have K1 := Lib.hid hk1; have T1 := Lib.hid (HT.out.grow hb1); clear hb1 hk1)
            | (go_at_call 15; (with_reducible refine (G1.out _ _ _ (K1.out.alloc _) (T1.out.alloc _)).mono ?_); rintro e x2 ⟨rfl, hb2⟩
               obtain ⟨hc2, hf2⟩ := bcell hb2; have s2 : x1.heap.size < x2.heap.size := by have := hb2.size; simp at this; omega
               have B2 := Lib.hid ((B1.out.alloc B1.out.size _).trans (hb2.mono (by have := B1.out.size; simp; omega))); have K2 := Lib.hid ((K1.out.alloc _).grow hb2); have T2 := Lib.hid ((T1.out.alloc _).grow hb2); clear hb2))
          have ca2 : x2.cell? ⟨x1.heap.size, 0, none⟩ = some (.int .i64 lo) := (hc2 _ 0 (by simp)).trans (by rw [World.cell?_alloc_at _ _ _ _ rfl]; rfl)
          have cb2 : x2.cell? ⟨x1.heap.size, 1, none⟩ = some (.int .i64 hi') := (hc2 _ 1 (by simp)).trans (by rw [World.cell?_alloc_at _ _ _ _ rfl]; rfl)
          have cc2 : x2.cell? ⟨x1.heap.size, 2, none⟩ = some (.slice A l.length c) := (hc2 _ 2 (by simp)).trans (by rw [World.cell?_alloc_at _ _ _ _ rfl]; rfl)
          have cd2 : x2.cell? ⟨x1.heap.size, 3, none⟩ = some (.bool week) := (hc2 _ 3 (by simp)).trans (by rw [World.cell?_alloc_at _ _ _ _ rfl]; rfl)
          clear hc2 hf2
          have hB := B2.out.drew; have hK := K2.out.grow (Below.refl x2.heap.size x2).drew; have hTT := T2.out.drew
          clear B2 K2 T2
          have B2 := Lib.hid hB; have K2 := Lib.hid hK; have T2 := Lib.hid hTT
          clear hB hK hTT
          go_region_held3 (fun w' => w'.cell? ⟨x1.heap.size, 0, none⟩ = some (.int .i64 lo) ∧ w'.cell? ⟨x1.heap.size, 1, none⟩ = some (.int .i64 hi') ∧ w'.cell? ⟨x1.heap.size, 2, none⟩ = some (.slice A l.length c) ∧ w'.cell? ⟨x1.heap.size, 3, none⟩ = some (.bool week)) (first | (exact ⟨ca3, cb3, cc3, cd3⟩) | (exact ⟨ca2, cb2, cc2, cd2⟩) | go_keep)
            (first
              | (go_at_call 15; (with_reducible refine (G2.out _ _ _ K2.out T2.out).mono ?_); rintro e x3 ⟨rfl, hb2⟩
                 have B3 := Lib.hid (B2.out.trans (hb2.mono B2.out.size)); have K3 := Lib.hid (K2.out.grow hb2); have T3 := Lib.hid (T2.out.grow hb2)
                 have s3 : x1.heap.size < x3.heap.size := by have h9 := hb2.size; have h8 : (World.drew x2).heap.size = x2.heap.size := rfl; omega
                 have ca3 := (hb2.cell (p := ⟨x1.heap.size, 0, none⟩) s2).trans ca2; have cb3 := (hb2.cell (p := ⟨x1.heap.size, 1, none⟩) s2).trans cb2; have cc3 := (hb2.cell (p := ⟨x1.heap.size, 2, none⟩) s2).trans cc2; have cd3 := (hb2.cell (p := ⟨x1.heap.size, 3, none⟩) s2).trans cd2
                 clear hb2))
          go_wp2_with (first
            | (go_at_call 14; (with_reducible refine (works_true _ T3.out).mono ?_); rintro e x4 ⟨rfl, hb2⟩
               have B4 := Lib.hid (B3.out.trans (hb2.mono B3.out.size)); clear hb2))
          have hB := B3.out.drew; have hK := K3.out.grow (Below.refl x3.heap.size x3).drew; have hTT := T3.out.drew
          clear B3 K3 T3
          have B3 := Lib.hid hB; have K3 := Lib.hid hK; have T3 := Lib.hid hTT
          clear hB hK hTT
          go_region_held3 (fun w' => w'.cell? ⟨x1.heap.size, 0, none⟩ = some (.int .i64 lo) ∧ w'.cell? ⟨x1.heap.size, 1, none⟩ = some (.int .i64 hi') ∧ w'.cell? ⟨x1.heap.size, 2, none⟩ = some (.slice A l.length c) ∧ w'.cell? ⟨x1.heap.size, 3, none⟩ = some (.bool week)) (first | (exact ⟨ca4, cb4, cc4, cd4⟩) | (exact ⟨ca3, cb3, cc3, cd3⟩) | go_keep)
            (first
              | (go_at_call 15; (with_reducible refine (G3.out _ _ _ K3.out T3.out).mono ?_); rintro e x4 ⟨rfl, hb2⟩
                 have B4 := Lib.hid (B3.out.trans (hb2.mono B3.out.size)); have K4 := Lib.hid (K3.out.grow hb2); have T4 := Lib.hid (T3.out.grow hb2)
                 have s4 : x1.heap.size < x4.heap.size := by have h9 := hb2.size; have h8 : (World.drew x3).heap.size = x3.heap.size := rfl; omega
                 have ca4 := (hb2.cell (p := ⟨x1.heap.size, 0, none⟩) s3).trans ca3; have cb4 := (hb2.cell (p := ⟨x1.heap.size, 1, none⟩) s3).trans cb3; have cc4 := (hb2.cell (p := ⟨x1.heap.size, 2, none⟩) s3).trans cc3; have cd4 := (hb2.cell (p := ⟨x1.heap.size, 3, none⟩) s3).trans cd3
                 clear hb2))
          go_wp2_with (first
            | (go_at_call 14; (with_reducible refine (works_true _ T4.out).mono ?_); rintro e x5 ⟨rfl, hb2⟩
               have B5 := Lib.hid (B4.out.trans (hb2.mono B4.out.size)); clear hb2))
          have hB := B4.out.drew; have hK := K4.out.grow (Below.refl x4.heap.size x4).drew; have hTT := T4.out.drew
          clear B4 K4 T4
          have B4 := Lib.hid hB; have K4 := Lib.hid hK; have T4 := Lib.hid hTT
          clear hB hK hTT
          go_region_held3 (fun w' => w'.cell? ⟨x1.heap.size, 0, none⟩ = some (.int .i64 lo) ∧ w'.cell? ⟨x1.heap.size, 1, none⟩ = some (.int .i64 hi') ∧ w'.cell? ⟨x1.heap.size, 2, none⟩ = some (.slice A l.length c) ∧ w'.cell? ⟨x1.heap.size, 3, none⟩ = some (.bool week)) (first | (exact ⟨ca5, cb5, cc5, cd5⟩) | (exact ⟨ca4, cb4, cc4, cd4⟩) | go_keep)
            (first
              | (go_at_call 15; (with_reducible refine (G4.out _ _ _ K4.out T4.out).mono ?_); rintro e x5 ⟨rfl, hb2⟩
                 have B5 := Lib.hid (B4.out.trans (hb2.mono B4.out.size)); have K5 := Lib.hid (K4.out.grow hb2); have T5 := Lib.hid (T4.out.grow hb2)
                 have s5 : x1.heap.size < x5.heap.size := by have h9 := hb2.size; have h8 : (World.drew x4).heap.size = x4.heap.size := rfl; omega
                 have ca5 := (hb2.cell (p := ⟨x1.heap.size, 0, none⟩) s4).trans ca4; have cb5 := (hb2.cell (p := ⟨x1.heap.size, 1, none⟩) s4).trans cb4; have cc5 := (hb2.cell (p := ⟨x1.heap.size, 2, none⟩) s4).trans cc4; have cd5 := (hb2.cell (p := ⟨x1.heap.size, 3, none⟩) s4).trans cd4
                 clear hb2))
          go_wp2_with (first
            | (go_at_call 14; (with_reducible refine (works_true _ T5.out).mono ?_); rintro e x6 ⟨rfl, hb2⟩
               have B6 := Lib.hid (B5.out.trans (hb2.mono B5.out.size)); clear hb2))
          all_goals (go_ret; exact ⟨rfl, B6.out⟩)
        · obtain ⟨hyx, hg10⟩ := pl3 rfl
          have hyy := hyx.symm
          subst hyy
          rcases hgg with rfl | rfl | rfl
          · clear hg10
            have a1 : IntKind.i64.wrap ((x : Int) + 1) = (x : Int) + 1 := IntWalk.i64_in _ (by omega)
            have a2 : (x : Int) ≤ (s.size : Int) := by omega
            have a3 : (x : Int) + 1 ≤ (s.size : Int) := by omega
            have a4 : (0 : Int) ≤ (x : Int) := by omega
            have a5 : (0 : Int) ≤ (x : Int) + 1 := by omega
            have a6 : ((x : Int) + 1).toNat = x + 1 := by omega
            have a7 := str_add (s.extract 0 (x + 1)) t (by rw [ByteArray.size_extract]; omega)
            have a8 := str_add (s.extract 0 x) (⟨#[49]⟩ : ByteArray) (by rw [ByteArray.size_extract]; show _ + 1 ≤ _; omega)
            clear hsix hT hk f1 f2 f3 f4 f5 f6 f7 f8 w0 w1 w2
            generalize Fs.full (kind lo hi l week) = fu at *
            generalize hhi : hi = hi' at *
            go_enter Tryz.func12, Tryz.ntmps12
            go_wp2_with (first
              | (go_at_call 32; (with_reducible refine (H6.out _ HT.out).mono ?_); rintro e x1 ⟨A, c, rfl, hb1, hk1⟩
                 have B1 := Lib.hid hb1; have K1 := Lib.hid hk1; have T1 := Lib.hid (HT.out.grow hb1); clear hb1 hk1)
              | (go_at_call 15; (with_reducible refine (G1.out _ _ _ (K1.out.alloc _) (T1.out.alloc _)).mono ?_); rintro e x2 ⟨rfl, hb2⟩
                 obtain ⟨hc2, hf2⟩ := bcell hb2; have s2 : x1.heap.size < x2.heap.size := by have := hb2.size; simp at this; omega
                 have B2 := Lib.hid ((B1.out.alloc B1.out.size _).trans (hb2.mono (by have := B1.out.size; simp; omega))); have K2 := Lib.hid ((K1.out.alloc _).grow hb2); have T2 := Lib.hid ((T1.out.alloc _).grow hb2); clear hb2))
            have ca2 : x2.cell? ⟨x1.heap.size, 0, none⟩ = some (.int .i64 lo) := (hc2 _ 0 (by simp)).trans (by rw [World.cell?_alloc_at _ _ _ _ rfl]; rfl)
            have cb2 : x2.cell? ⟨x1.heap.size, 1, none⟩ = some (.int .i64 hi') := (hc2 _ 1 (by simp)).trans (by rw [World.cell?_alloc_at _ _ _ _ rfl]; rfl)
            have cc2 : x2.cell? ⟨x1.heap.size, 2, none⟩ = some (.slice A l.length c) := (hc2 _ 2 (by simp)).trans (by rw [World.cell?_alloc_at _ _ _ _ rfl]; rfl)
            have cd2 : x2.cell? ⟨x1.heap.size, 3, none⟩ = some (.bool week) := (hc2 _ 3 (by simp)).trans (by rw [World.cell?_alloc_at _ _ _ _ rfl]; rfl)
            clear hc2 hf2
            have hB := B2.out.drew; have hK := K2.out.grow (Below.refl x2.heap.size x2).drew; have hTT := T2.out.drew
            clear B2 K2 T2
            have B2 := Lib.hid hB; have K2 := Lib.hid hK; have T2 := Lib.hid hTT
            clear hB hK hTT
            go_region_held3 (fun w' => w'.cell? ⟨x1.heap.size, 0, none⟩ = some (.int .i64 lo) ∧ w'.cell? ⟨x1.heap.size, 1, none⟩ = some (.int .i64 hi') ∧ w'.cell? ⟨x1.heap.size, 2, none⟩ = some (.slice A l.length c) ∧ w'.cell? ⟨x1.heap.size, 3, none⟩ = some (.bool week)) (first | (exact ⟨ca3, cb3, cc3, cd3⟩) | (exact ⟨ca2, cb2, cc2, cd2⟩) | go_keep)
              (first
                | (go_at_call 15; (with_reducible refine (G2.out _ _ _ K2.out T2.out).mono ?_); rintro e x3 ⟨rfl, hb2⟩
                   have B3 := Lib.hid (B2.out.trans (hb2.mono B2.out.size)); have K3 := Lib.hid (K2.out.grow hb2); have T3 := Lib.hid (T2.out.grow hb2)
                   have s3 : x1.heap.size < x3.heap.size := by have h9 := hb2.size; have h8 : (World.drew x2).heap.size = x2.heap.size := rfl; omega
                   have ca3 := (hb2.cell (p := ⟨x1.heap.size, 0, none⟩) s2).trans ca2; have cb3 := (hb2.cell (p := ⟨x1.heap.size, 1, none⟩) s2).trans cb2; have cc3 := (hb2.cell (p := ⟨x1.heap.size, 2, none⟩) s2).trans cc2; have cd3 := (hb2.cell (p := ⟨x1.heap.size, 3, none⟩) s2).trans cd2
                   clear hb2))
            go_wp2_with (first
              | (go_at_call 14; (with_reducible refine (works_true _ T3.out).mono ?_); rintro e x4 ⟨rfl, hb2⟩
                 have B4 := Lib.hid (B3.out.trans (hb2.mono B3.out.size)); clear hb2))
            have hB := B3.out.drew; have hK := K3.out.grow (Below.refl x3.heap.size x3).drew; have hTT := T3.out.drew
            clear B3 K3 T3
            have B3 := Lib.hid hB; have K3 := Lib.hid hK; have T3 := Lib.hid hTT
            clear hB hK hTT
            go_region_held3 (fun w' => w'.cell? ⟨x1.heap.size, 0, none⟩ = some (.int .i64 lo) ∧ w'.cell? ⟨x1.heap.size, 1, none⟩ = some (.int .i64 hi') ∧ w'.cell? ⟨x1.heap.size, 2, none⟩ = some (.slice A l.length c) ∧ w'.cell? ⟨x1.heap.size, 3, none⟩ = some (.bool week)) (first | (exact ⟨ca4, cb4, cc4, cd4⟩) | (exact ⟨ca3, cb3, cc3, cd3⟩) | go_keep)
              (first
                | (go_at_call 15; (with_reducible refine (G3.out _ _ _ K3.out T3.out).mono ?_); rintro e x4 ⟨rfl, hb2⟩
                   have B4 := Lib.hid (B3.out.trans (hb2.mono B3.out.size)); have K4 := Lib.hid (K3.out.grow hb2); have T4 := Lib.hid (T3.out.grow hb2)
                   have s4 : x1.heap.size < x4.heap.size := by have h9 := hb2.size; have h8 : (World.drew x3).heap.size = x3.heap.size := rfl; omega
                   have ca4 := (hb2.cell (p := ⟨x1.heap.size, 0, none⟩) s3).trans ca3; have cb4 := (hb2.cell (p := ⟨x1.heap.size, 1, none⟩) s3).trans cb3; have cc4 := (hb2.cell (p := ⟨x1.heap.size, 2, none⟩) s3).trans cc3; have cd4 := (hb2.cell (p := ⟨x1.heap.size, 3, none⟩) s3).trans cd3
                   clear hb2))
            go_wp2_with (first
              | (go_at_call 14; (with_reducible refine (works_true _ T4.out).mono ?_); rintro e x5 ⟨rfl, hb2⟩
                 have B5 := Lib.hid (B4.out.trans (hb2.mono B4.out.size)); clear hb2))
            have hB := B4.out.drew; have hK := K4.out.grow (Below.refl x4.heap.size x4).drew; have hTT := T4.out.drew
            clear B4 K4 T4
            have B4 := Lib.hid hB; have K4 := Lib.hid hK; have T4 := Lib.hid hTT
            clear hB hK hTT
            go_region_held3 (fun w' => w'.cell? ⟨x1.heap.size, 0, none⟩ = some (.int .i64 lo) ∧ w'.cell? ⟨x1.heap.size, 1, none⟩ = some (.int .i64 hi') ∧ w'.cell? ⟨x1.heap.size, 2, none⟩ = some (.slice A l.length c) ∧ w'.cell? ⟨x1.heap.size, 3, none⟩ = some (.bool week)) (first | (exact ⟨ca5, cb5, cc5, cd5⟩) | (exact ⟨ca4, cb4, cc4, cd4⟩) | go_keep)
              (first
                | (go_at_call 15; (with_reducible refine (G4.out _ _ _ K4.out T4.out).mono ?_); rintro e x5 ⟨rfl, hb2⟩
                   have B5 := Lib.hid (B4.out.trans (hb2.mono B4.out.size)); have K5 := Lib.hid (K4.out.grow hb2); have T5 := Lib.hid (T4.out.grow hb2)
                   have s5 : x1.heap.size < x5.heap.size := by have h9 := hb2.size; have h8 : (World.drew x4).heap.size = x4.heap.size := rfl; omega
                   have ca5 := (hb2.cell (p := ⟨x1.heap.size, 0, none⟩) s4).trans ca4; have cb5 := (hb2.cell (p := ⟨x1.heap.size, 1, none⟩) s4).trans cb4; have cc5 := (hb2.cell (p := ⟨x1.heap.size, 2, none⟩) s4).trans cc4; have cd5 := (hb2.cell (p := ⟨x1.heap.size, 3, none⟩) s4).trans cd4
                   clear hb2))
            go_wp2_with (first
              | (go_at_call 14; (with_reducible refine (works_true _ T5.out).mono ?_); rintro e x6 ⟨rfl, hb2⟩
                 have B6 := Lib.hid (B5.out.trans (hb2.mono B5.out.size)); clear hb2))
            all_goals (go_ret; exact ⟨rfl, B6.out⟩)
          · clear hg10
            have a1 : IntKind.i64.wrap ((x : Int) + 1) = (x : Int) + 1 := IntWalk.i64_in _ (by omega)
            have a2 : (x : Int) ≤ (s.size : Int) := by omega
            have a3 : (x : Int) + 1 ≤ (s.size : Int) := by omega
            have a4 : (0 : Int) ≤ (x : Int) := by omega
            have a5 : (0 : Int) ≤ (x : Int) + 1 := by omega
            have a6 : ((x : Int) + 1).toNat = x + 1 := by omega
            have a7 := str_add (s.extract 0 (x + 1)) t (by rw [ByteArray.size_extract]; omega)
            have a8 := str_add (s.extract 0 x) (⟨#[49]⟩ : ByteArray) (by rw [ByteArray.size_extract]; show _ + 1 ≤ _; omega)
            clear hsix hT hk f1 f2 f3 f4 f5 f6 f7 f8 w0 w1 w2
            generalize Fs.full (kind lo hi l week) = fu at *
            generalize hhi : hi = hi' at *
            go_enter Tryz.func12, Tryz.ntmps12
            go_wp2_with (first
              | (go_at_call 32; (with_reducible refine (H6.out _ HT.out).mono ?_); rintro e x1 ⟨A, c, rfl, hb1, hk1⟩
                 have B1 := Lib.hid hb1; have K1 := Lib.hid hk1; have T1 := Lib.hid (HT.out.grow hb1); clear hb1 hk1)
              | (go_at_call 15; (with_reducible refine (G1.out _ _ _ (K1.out.alloc _) (T1.out.alloc _)).mono ?_); rintro e x2 ⟨rfl, hb2⟩
                 obtain ⟨hc2, hf2⟩ := bcell hb2; have s2 : x1.heap.size < x2.heap.size := by have := hb2.size; simp at this; omega
                 have B2 := Lib.hid ((B1.out.alloc B1.out.size _).trans (hb2.mono (by have := B1.out.size; simp; omega))); have K2 := Lib.hid ((K1.out.alloc _).grow hb2); have T2 := Lib.hid ((T1.out.alloc _).grow hb2); clear hb2))
            have ca2 : x2.cell? ⟨x1.heap.size, 0, none⟩ = some (.int .i64 lo) := (hc2 _ 0 (by simp)).trans (by rw [World.cell?_alloc_at _ _ _ _ rfl]; rfl)
            have cb2 : x2.cell? ⟨x1.heap.size, 1, none⟩ = some (.int .i64 hi') := (hc2 _ 1 (by simp)).trans (by rw [World.cell?_alloc_at _ _ _ _ rfl]; rfl)
            have cc2 : x2.cell? ⟨x1.heap.size, 2, none⟩ = some (.slice A l.length c) := (hc2 _ 2 (by simp)).trans (by rw [World.cell?_alloc_at _ _ _ _ rfl]; rfl)
            have cd2 : x2.cell? ⟨x1.heap.size, 3, none⟩ = some (.bool week) := (hc2 _ 3 (by simp)).trans (by rw [World.cell?_alloc_at _ _ _ _ rfl]; rfl)
            clear hc2 hf2
            have hB := B2.out.drew; have hK := K2.out.grow (Below.refl x2.heap.size x2).drew; have hTT := T2.out.drew
            clear B2 K2 T2
            have B2 := Lib.hid hB; have K2 := Lib.hid hK; have T2 := Lib.hid hTT
            clear hB hK hTT
            go_region_held3 (fun w' => w'.cell? ⟨x1.heap.size, 0, none⟩ = some (.int .i64 lo) ∧ w'.cell? ⟨x1.heap.size, 1, none⟩ = some (.int .i64 hi') ∧ w'.cell? ⟨x1.heap.size, 2, none⟩ = some (.slice A l.length c) ∧ w'.cell? ⟨x1.heap.size, 3, none⟩ = some (.bool week)) (first | (exact ⟨ca3, cb3, cc3, cd3⟩) | (exact ⟨ca2, cb2, cc2, cd2⟩) | go_keep)
              (first
                | (go_at_call 15; (with_reducible refine (G2.out _ _ _ K2.out T2.out).mono ?_); rintro e x3 ⟨rfl, hb2⟩
                   have B3 := Lib.hid (B2.out.trans (hb2.mono B2.out.size)); have K3 := Lib.hid (K2.out.grow hb2); have T3 := Lib.hid (T2.out.grow hb2)
                   have s3 : x1.heap.size < x3.heap.size := by have h9 := hb2.size; have h8 : (World.drew x2).heap.size = x2.heap.size := rfl; omega
                   have ca3 := (hb2.cell (p := ⟨x1.heap.size, 0, none⟩) s2).trans ca2; have cb3 := (hb2.cell (p := ⟨x1.heap.size, 1, none⟩) s2).trans cb2; have cc3 := (hb2.cell (p := ⟨x1.heap.size, 2, none⟩) s2).trans cc2; have cd3 := (hb2.cell (p := ⟨x1.heap.size, 3, none⟩) s2).trans cd2
                   clear hb2))
            go_wp2_with (first
              | (go_at_call 14; (with_reducible refine (works_true _ T3.out).mono ?_); rintro e x4 ⟨rfl, hb2⟩
                 have B4 := Lib.hid (B3.out.trans (hb2.mono B3.out.size)); clear hb2))
            have hB := B3.out.drew; have hK := K3.out.grow (Below.refl x3.heap.size x3).drew; have hTT := T3.out.drew
            clear B3 K3 T3
            have B3 := Lib.hid hB; have K3 := Lib.hid hK; have T3 := Lib.hid hTT
            clear hB hK hTT
            go_region_held3 (fun w' => w'.cell? ⟨x1.heap.size, 0, none⟩ = some (.int .i64 lo) ∧ w'.cell? ⟨x1.heap.size, 1, none⟩ = some (.int .i64 hi') ∧ w'.cell? ⟨x1.heap.size, 2, none⟩ = some (.slice A l.length c) ∧ w'.cell? ⟨x1.heap.size, 3, none⟩ = some (.bool week)) (first | (exact ⟨ca4, cb4, cc4, cd4⟩) | (exact ⟨ca3, cb3, cc3, cd3⟩) | go_keep)
              (first
                | (go_at_call 15; (with_reducible refine (G3.out _ _ _ K3.out T3.out).mono ?_); rintro e x4 ⟨rfl, hb2⟩
                   have B4 := Lib.hid (B3.out.trans (hb2.mono B3.out.size)); have K4 := Lib.hid (K3.out.grow hb2); have T4 := Lib.hid (T3.out.grow hb2)
                   have s4 : x1.heap.size < x4.heap.size := by have h9 := hb2.size; have h8 : (World.drew x3).heap.size = x3.heap.size := rfl; omega
                   have ca4 := (hb2.cell (p := ⟨x1.heap.size, 0, none⟩) s3).trans ca3; have cb4 := (hb2.cell (p := ⟨x1.heap.size, 1, none⟩) s3).trans cb3; have cc4 := (hb2.cell (p := ⟨x1.heap.size, 2, none⟩) s3).trans cc3; have cd4 := (hb2.cell (p := ⟨x1.heap.size, 3, none⟩) s3).trans cd3
                   clear hb2))
            go_wp2_with (first
              | (go_at_call 14; (with_reducible refine (works_true _ T4.out).mono ?_); rintro e x5 ⟨rfl, hb2⟩
                 have B5 := Lib.hid (B4.out.trans (hb2.mono B4.out.size)); clear hb2))
            have hB := B4.out.drew; have hK := K4.out.grow (Below.refl x4.heap.size x4).drew; have hTT := T4.out.drew
            clear B4 K4 T4
            have B4 := Lib.hid hB; have K4 := Lib.hid hK; have T4 := Lib.hid hTT
            clear hB hK hTT
            go_region_held3 (fun w' => w'.cell? ⟨x1.heap.size, 0, none⟩ = some (.int .i64 lo) ∧ w'.cell? ⟨x1.heap.size, 1, none⟩ = some (.int .i64 hi') ∧ w'.cell? ⟨x1.heap.size, 2, none⟩ = some (.slice A l.length c) ∧ w'.cell? ⟨x1.heap.size, 3, none⟩ = some (.bool week)) (first | (exact ⟨ca5, cb5, cc5, cd5⟩) | (exact ⟨ca4, cb4, cc4, cd4⟩) | go_keep)
              (first
                | (go_at_call 15; (with_reducible refine (G4.out _ _ _ K4.out T4.out).mono ?_); rintro e x5 ⟨rfl, hb2⟩
                   have B5 := Lib.hid (B4.out.trans (hb2.mono B4.out.size)); have K5 := Lib.hid (K4.out.grow hb2); have T5 := Lib.hid (T4.out.grow hb2)
                   have s5 : x1.heap.size < x5.heap.size := by have h9 := hb2.size; have h8 : (World.drew x4).heap.size = x4.heap.size := rfl; omega
                   have ca5 := (hb2.cell (p := ⟨x1.heap.size, 0, none⟩) s4).trans ca4; have cb5 := (hb2.cell (p := ⟨x1.heap.size, 1, none⟩) s4).trans cb4; have cc5 := (hb2.cell (p := ⟨x1.heap.size, 2, none⟩) s4).trans cc4; have cd5 := (hb2.cell (p := ⟨x1.heap.size, 3, none⟩) s4).trans cd4
                   clear hb2))
            go_wp2_with (first
              | (go_at_call 14; (with_reducible refine (works_true _ T5.out).mono ?_); rintro e x6 ⟨rfl, hb2⟩
                 have B6 := Lib.hid (B5.out.trans (hb2.mono B5.out.size)); clear hb2))
            all_goals (go_ret; exact ⟨rfl, B6.out⟩)
          · exact absurd rfl hg10
      · have hlet : ∀ c, s.data.toList[x]? = some c → Fs.letterB c = false := by
          intro c hc
          rw [hg] at hc; injection hc with hc; subst hc
          simp only [Fs.letterB, Bool.or_eq_false_iff, Bool.and_eq_false_iff, decide_eq_false_iff_not]
          omega
        clear hg
        obtain ⟨pl1, pl2, pl3⟩ := hpl x rfl rfl hlet
        rcases hr : Fs.parse (kind lo hi l week) (s.data.toList.take x) with ⟨b, is, y, f⟩
        rw [hr] at hfl pl3
        simp only at hfl pl3
        have hff : f = 0 ∨ f = 2 ∨ f = 10 := by omega
        have pl2 := pl2 hxs t.data.toList
        rcases hu : Fs.parse (kind lo hi l week) ((s.data.toList.take x) ++ [49]) with ⟨b', is', y', g⟩
        rw [hu] at hgl pl3
        simp only at hgl pl3
        have hgg : g = 0 ∨ g = 2 ∨ g = 10 := by omega
        clear hfl hgl
        have G2 : Hid (∀ A c W, KindAt W (n % 6) lo hi A c l week → Tabs W → Calls Tryz.prog 15 #[.agg #[.int .i64 lo, .int .i64 hi, .slice A l.length c, .bool week], .string (s.extract 0 (x + 1) ++ t)] W fun e w' => e = .returned (.tuple #[.int .u64 0, .bool false, .int .i64 x, .int .i64 10]) ∧ Below W.heap.size W w') :=
          Lib.hid fun A c W h hT => by have := kd_Parse h hT (s.extract 0 (x + 1) ++ t) (et _); rw [q1, pl2] at this; exact this
        have G3 : Hid (∀ A c W, KindAt W (n % 6) lo hi A c l week → Tabs W → Calls Tryz.prog 15 #[.agg #[.int .i64 lo, .int .i64 hi, .slice A l.length c, .bool week], .string (s.extract 0 x)] W fun e w' => e = .returned (.tuple #[.int .u64 b, .bool is, .int .i64 y, .int .i64 f]) ∧ Below W.heap.size W w') :=
          Lib.hid fun A c W h hT => by have := kd_Parse h hT (s.extract 0 x) (e0 _); rw [take_extract, hr] at this; exact this
        have G4 : Hid (∀ A c W, KindAt W (n % 6) lo hi A c l week → Tabs W → Calls Tryz.prog 15 #[.agg #[.int .i64 lo, .int .i64 hi, .slice A l.length c, .bool week], .string (s.extract 0 x ++ (⟨#[49]⟩ : ByteArray))] W fun e w' => e = .returned (.tuple #[.int .u64 b', .bool is', .int .i64 y', .int .i64 g]) ∧ Below W.heap.size W w') :=
          Lib.hid fun A c W h hT => by have := kd_Parse h hT (s.extract 0 x ++ (⟨#[49]⟩ : ByteArray)) (e9 _); rw [q9, hu] at this; exact this
        clear hu hp et e0 e9 q1 q9 hpl hlet hr pl1 pl2
        rcases hff with rfl | rfl | rfl
        · clear hgg pl3
          have a1 : IntKind.i64.wrap ((x : Int) + 1) = (x : Int) + 1 := IntWalk.i64_in _ (by omega)
          have a2 : (x : Int) ≤ (s.size : Int) := by omega
          have a3 : (x : Int) + 1 ≤ (s.size : Int) := by omega
          have a4 : (0 : Int) ≤ (x : Int) := by omega
          have a5 : (0 : Int) ≤ (x : Int) + 1 := by omega
          have a6 : ((x : Int) + 1).toNat = x + 1 := by omega
          have a7 := str_add (s.extract 0 (x + 1)) t (by rw [ByteArray.size_extract]; omega)
          have a8 := str_add (s.extract 0 x) (⟨#[49]⟩ : ByteArray) (by rw [ByteArray.size_extract]; show _ + 1 ≤ _; omega)
          clear hsix hT hk f1 f2 f3 f4 f5 f6 f7 f8 w0 w1 w2
          generalize Fs.full (kind lo hi l week) = fu at *
          generalize hhi : hi = hi' at *
          go_enter Tryz.func12, Tryz.ntmps12
          go_wp2_with (first
            | (go_at_call 32; (with_reducible refine (H6.out _ HT.out).mono ?_); rintro e x1 ⟨A, c, rfl, hb1, hk1⟩
               have B1 := Lib.hid hb1; have K1 := Lib.hid hk1; have T1 := Lib.hid (HT.out.grow hb1); clear hb1 hk1)
            | (go_at_call 15; (with_reducible refine (G1.out _ _ _ (K1.out.alloc _) (T1.out.alloc _)).mono ?_); rintro e x2 ⟨rfl, hb2⟩
               obtain ⟨hc2, hf2⟩ := bcell hb2; have s2 : x1.heap.size < x2.heap.size := by have := hb2.size; simp at this; omega
               have B2 := Lib.hid ((B1.out.alloc B1.out.size _).trans (hb2.mono (by have := B1.out.size; simp; omega))); have K2 := Lib.hid ((K1.out.alloc _).grow hb2); have T2 := Lib.hid ((T1.out.alloc _).grow hb2); clear hb2))
          have ca2 : x2.cell? ⟨x1.heap.size, 0, none⟩ = some (.int .i64 lo) := (hc2 _ 0 (by simp)).trans (by rw [World.cell?_alloc_at _ _ _ _ rfl]; rfl)
          have cb2 : x2.cell? ⟨x1.heap.size, 1, none⟩ = some (.int .i64 hi') := (hc2 _ 1 (by simp)).trans (by rw [World.cell?_alloc_at _ _ _ _ rfl]; rfl)
          have cc2 : x2.cell? ⟨x1.heap.size, 2, none⟩ = some (.slice A l.length c) := (hc2 _ 2 (by simp)).trans (by rw [World.cell?_alloc_at _ _ _ _ rfl]; rfl)
          have cd2 : x2.cell? ⟨x1.heap.size, 3, none⟩ = some (.bool week) := (hc2 _ 3 (by simp)).trans (by rw [World.cell?_alloc_at _ _ _ _ rfl]; rfl)
          clear hc2 hf2
          have hB := B2.out.drew; have hK := K2.out.grow (Below.refl x2.heap.size x2).drew; have hTT := T2.out.drew
          clear B2 K2 T2
          have B2 := Lib.hid hB; have K2 := Lib.hid hK; have T2 := Lib.hid hTT
          clear hB hK hTT
          go_region_held3 (fun w' => w'.cell? ⟨x1.heap.size, 0, none⟩ = some (.int .i64 lo) ∧ w'.cell? ⟨x1.heap.size, 1, none⟩ = some (.int .i64 hi') ∧ w'.cell? ⟨x1.heap.size, 2, none⟩ = some (.slice A l.length c) ∧ w'.cell? ⟨x1.heap.size, 3, none⟩ = some (.bool week)) (first | (exact ⟨ca3, cb3, cc3, cd3⟩) | (exact ⟨ca2, cb2, cc2, cd2⟩) | go_keep)
            (first
              | (go_at_call 15; (with_reducible refine (G2.out _ _ _ K2.out T2.out).mono ?_); rintro e x3 ⟨rfl, hb2⟩
                 have B3 := Lib.hid (B2.out.trans (hb2.mono B2.out.size)); have K3 := Lib.hid (K2.out.grow hb2); have T3 := Lib.hid (T2.out.grow hb2)
                 have s3 : x1.heap.size < x3.heap.size := by have h9 := hb2.size; have h8 : (World.drew x2).heap.size = x2.heap.size := rfl; omega
                 have ca3 := (hb2.cell (p := ⟨x1.heap.size, 0, none⟩) s2).trans ca2; have cb3 := (hb2.cell (p := ⟨x1.heap.size, 1, none⟩) s2).trans cb2; have cc3 := (hb2.cell (p := ⟨x1.heap.size, 2, none⟩) s2).trans cc2; have cd3 := (hb2.cell (p := ⟨x1.heap.size, 3, none⟩) s2).trans cd2
                 clear hb2))
          go_wp2_with (first
            | (go_at_call 14; (with_reducible refine (works_true _ T3.out).mono ?_); rintro e x4 ⟨rfl, hb2⟩
               have B4 := Lib.hid (B3.out.trans (hb2.mono B3.out.size)); clear hb2))
          have hB := B3.out.drew; have hK := K3.out.grow (Below.refl x3.heap.size x3).drew; have hTT := T3.out.drew
          clear B3 K3 T3
          have B3 := Lib.hid hB; have K3 := Lib.hid hK; have T3 := Lib.hid hTT
          clear hB hK hTT
          go_region_held3 (fun w' => w'.cell? ⟨x1.heap.size, 0, none⟩ = some (.int .i64 lo) ∧ w'.cell? ⟨x1.heap.size, 1, none⟩ = some (.int .i64 hi') ∧ w'.cell? ⟨x1.heap.size, 2, none⟩ = some (.slice A l.length c) ∧ w'.cell? ⟨x1.heap.size, 3, none⟩ = some (.bool week)) (first | (exact ⟨ca4, cb4, cc4, cd4⟩) | (exact ⟨ca3, cb3, cc3, cd3⟩) | go_keep)
            (first
              | (go_at_call 15; (with_reducible refine (G3.out _ _ _ K3.out T3.out).mono ?_); rintro e x4 ⟨rfl, hb2⟩
                 have B4 := Lib.hid (B3.out.trans (hb2.mono B3.out.size)); have K4 := Lib.hid (K3.out.grow hb2); have T4 := Lib.hid (T3.out.grow hb2)
                 have s4 : x1.heap.size < x4.heap.size := by have h9 := hb2.size; have h8 : (World.drew x3).heap.size = x3.heap.size := rfl; omega
                 have ca4 := (hb2.cell (p := ⟨x1.heap.size, 0, none⟩) s3).trans ca3; have cb4 := (hb2.cell (p := ⟨x1.heap.size, 1, none⟩) s3).trans cb3; have cc4 := (hb2.cell (p := ⟨x1.heap.size, 2, none⟩) s3).trans cc3; have cd4 := (hb2.cell (p := ⟨x1.heap.size, 3, none⟩) s3).trans cd3
                 clear hb2))
          go_wp2_with (first
            | (go_at_call 14; (with_reducible refine (works_true _ T4.out).mono ?_); rintro e x5 ⟨rfl, hb2⟩
               have B5 := Lib.hid (B4.out.trans (hb2.mono B4.out.size)); clear hb2))
          have hB := B4.out.drew; have hK := K4.out.grow (Below.refl x4.heap.size x4).drew; have hTT := T4.out.drew
          clear B4 K4 T4
          have B4 := Lib.hid hB; have K4 := Lib.hid hK; have T4 := Lib.hid hTT
          clear hB hK hTT
          go_region_held3 (fun w' => w'.cell? ⟨x1.heap.size, 0, none⟩ = some (.int .i64 lo) ∧ w'.cell? ⟨x1.heap.size, 1, none⟩ = some (.int .i64 hi') ∧ w'.cell? ⟨x1.heap.size, 2, none⟩ = some (.slice A l.length c) ∧ w'.cell? ⟨x1.heap.size, 3, none⟩ = some (.bool week)) (first | (exact ⟨ca5, cb5, cc5, cd5⟩) | (exact ⟨ca4, cb4, cc4, cd4⟩) | go_keep)
            (first
              | (go_at_call 15; (with_reducible refine (G4.out _ _ _ K4.out T4.out).mono ?_); rintro e x5 ⟨rfl, hb2⟩
                 have B5 := Lib.hid (B4.out.trans (hb2.mono B4.out.size)); have K5 := Lib.hid (K4.out.grow hb2); have T5 := Lib.hid (T4.out.grow hb2)
                 have s5 : x1.heap.size < x5.heap.size := by have h9 := hb2.size; have h8 : (World.drew x4).heap.size = x4.heap.size := rfl; omega
                 have ca5 := (hb2.cell (p := ⟨x1.heap.size, 0, none⟩) s4).trans ca4; have cb5 := (hb2.cell (p := ⟨x1.heap.size, 1, none⟩) s4).trans cb4; have cc5 := (hb2.cell (p := ⟨x1.heap.size, 2, none⟩) s4).trans cc4; have cd5 := (hb2.cell (p := ⟨x1.heap.size, 3, none⟩) s4).trans cd4
                 clear hb2))
          go_wp2_with (first
            | (go_at_call 14; (with_reducible refine (works_true _ T5.out).mono ?_); rintro e x6 ⟨rfl, hb2⟩
               have B6 := Lib.hid (B5.out.trans (hb2.mono B5.out.size)); clear hb2))
          all_goals (go_ret; exact ⟨rfl, B6.out⟩)
        · clear hgg pl3
          have a1 : IntKind.i64.wrap ((x : Int) + 1) = (x : Int) + 1 := IntWalk.i64_in _ (by omega)
          have a2 : (x : Int) ≤ (s.size : Int) := by omega
          have a3 : (x : Int) + 1 ≤ (s.size : Int) := by omega
          have a4 : (0 : Int) ≤ (x : Int) := by omega
          have a5 : (0 : Int) ≤ (x : Int) + 1 := by omega
          have a6 : ((x : Int) + 1).toNat = x + 1 := by omega
          have a7 := str_add (s.extract 0 (x + 1)) t (by rw [ByteArray.size_extract]; omega)
          have a8 := str_add (s.extract 0 x) (⟨#[49]⟩ : ByteArray) (by rw [ByteArray.size_extract]; show _ + 1 ≤ _; omega)
          clear hsix hT hk f1 f2 f3 f4 f5 f6 f7 f8 w0 w1 w2
          generalize Fs.full (kind lo hi l week) = fu at *
          generalize hhi : hi = hi' at *
          go_enter Tryz.func12, Tryz.ntmps12
          go_wp2_with (first
            | (go_at_call 32; (with_reducible refine (H6.out _ HT.out).mono ?_); rintro e x1 ⟨A, c, rfl, hb1, hk1⟩
               have B1 := Lib.hid hb1; have K1 := Lib.hid hk1; have T1 := Lib.hid (HT.out.grow hb1); clear hb1 hk1)
            | (go_at_call 15; (with_reducible refine (G1.out _ _ _ (K1.out.alloc _) (T1.out.alloc _)).mono ?_); rintro e x2 ⟨rfl, hb2⟩
               obtain ⟨hc2, hf2⟩ := bcell hb2; have s2 : x1.heap.size < x2.heap.size := by have := hb2.size; simp at this; omega
               have B2 := Lib.hid ((B1.out.alloc B1.out.size _).trans (hb2.mono (by have := B1.out.size; simp; omega))); have K2 := Lib.hid ((K1.out.alloc _).grow hb2); have T2 := Lib.hid ((T1.out.alloc _).grow hb2); clear hb2))
          have ca2 : x2.cell? ⟨x1.heap.size, 0, none⟩ = some (.int .i64 lo) := (hc2 _ 0 (by simp)).trans (by rw [World.cell?_alloc_at _ _ _ _ rfl]; rfl)
          have cb2 : x2.cell? ⟨x1.heap.size, 1, none⟩ = some (.int .i64 hi') := (hc2 _ 1 (by simp)).trans (by rw [World.cell?_alloc_at _ _ _ _ rfl]; rfl)
          have cc2 : x2.cell? ⟨x1.heap.size, 2, none⟩ = some (.slice A l.length c) := (hc2 _ 2 (by simp)).trans (by rw [World.cell?_alloc_at _ _ _ _ rfl]; rfl)
          have cd2 : x2.cell? ⟨x1.heap.size, 3, none⟩ = some (.bool week) := (hc2 _ 3 (by simp)).trans (by rw [World.cell?_alloc_at _ _ _ _ rfl]; rfl)
          clear hc2 hf2
          have hB := B2.out.drew; have hK := K2.out.grow (Below.refl x2.heap.size x2).drew; have hTT := T2.out.drew
          clear B2 K2 T2
          have B2 := Lib.hid hB; have K2 := Lib.hid hK; have T2 := Lib.hid hTT
          clear hB hK hTT
          go_region_held3 (fun w' => w'.cell? ⟨x1.heap.size, 0, none⟩ = some (.int .i64 lo) ∧ w'.cell? ⟨x1.heap.size, 1, none⟩ = some (.int .i64 hi') ∧ w'.cell? ⟨x1.heap.size, 2, none⟩ = some (.slice A l.length c) ∧ w'.cell? ⟨x1.heap.size, 3, none⟩ = some (.bool week)) (first | (exact ⟨ca3, cb3, cc3, cd3⟩) | (exact ⟨ca2, cb2, cc2, cd2⟩) | go_keep)
            (first
              | (go_at_call 15; (with_reducible refine (G2.out _ _ _ K2.out T2.out).mono ?_); rintro e x3 ⟨rfl, hb2⟩
                 have B3 := Lib.hid (B2.out.trans (hb2.mono B2.out.size)); have K3 := Lib.hid (K2.out.grow hb2); have T3 := Lib.hid (T2.out.grow hb2)
                 have s3 : x1.heap.size < x3.heap.size := by have h9 := hb2.size; have h8 : (World.drew x2).heap.size = x2.heap.size := rfl; omega
                 have ca3 := (hb2.cell (p := ⟨x1.heap.size, 0, none⟩) s2).trans ca2; have cb3 := (hb2.cell (p := ⟨x1.heap.size, 1, none⟩) s2).trans cb2; have cc3 := (hb2.cell (p := ⟨x1.heap.size, 2, none⟩) s2).trans cc2; have cd3 := (hb2.cell (p := ⟨x1.heap.size, 3, none⟩) s2).trans cd2
                 clear hb2))
          go_wp2_with (first
            | (go_at_call 14; (with_reducible refine (works_true _ T3.out).mono ?_); rintro e x4 ⟨rfl, hb2⟩
               have B4 := Lib.hid (B3.out.trans (hb2.mono B3.out.size)); clear hb2))
          have hB := B3.out.drew; have hK := K3.out.grow (Below.refl x3.heap.size x3).drew; have hTT := T3.out.drew
          clear B3 K3 T3
          have B3 := Lib.hid hB; have K3 := Lib.hid hK; have T3 := Lib.hid hTT
          clear hB hK hTT
          go_region_held3 (fun w' => w'.cell? ⟨x1.heap.size, 0, none⟩ = some (.int .i64 lo) ∧ w'.cell? ⟨x1.heap.size, 1, none⟩ = some (.int .i64 hi') ∧ w'.cell? ⟨x1.heap.size, 2, none⟩ = some (.slice A l.length c) ∧ w'.cell? ⟨x1.heap.size, 3, none⟩ = some (.bool week)) (first | (exact ⟨ca4, cb4, cc4, cd4⟩) | (exact ⟨ca3, cb3, cc3, cd3⟩) | go_keep)
            (first
              | (go_at_call 15; (with_reducible refine (G3.out _ _ _ K3.out T3.out).mono ?_); rintro e x4 ⟨rfl, hb2⟩
                 have B4 := Lib.hid (B3.out.trans (hb2.mono B3.out.size)); have K4 := Lib.hid (K3.out.grow hb2); have T4 := Lib.hid (T3.out.grow hb2)
                 have s4 : x1.heap.size < x4.heap.size := by have h9 := hb2.size; have h8 : (World.drew x3).heap.size = x3.heap.size := rfl; omega
                 have ca4 := (hb2.cell (p := ⟨x1.heap.size, 0, none⟩) s3).trans ca3; have cb4 := (hb2.cell (p := ⟨x1.heap.size, 1, none⟩) s3).trans cb3; have cc4 := (hb2.cell (p := ⟨x1.heap.size, 2, none⟩) s3).trans cc3; have cd4 := (hb2.cell (p := ⟨x1.heap.size, 3, none⟩) s3).trans cd3
                 clear hb2))
          go_wp2_with (first
            | (go_at_call 14; (with_reducible refine (works_true _ T4.out).mono ?_); rintro e x5 ⟨rfl, hb2⟩
               have B5 := Lib.hid (B4.out.trans (hb2.mono B4.out.size)); clear hb2))
          have hB := B4.out.drew; have hK := K4.out.grow (Below.refl x4.heap.size x4).drew; have hTT := T4.out.drew
          clear B4 K4 T4
          have B4 := Lib.hid hB; have K4 := Lib.hid hK; have T4 := Lib.hid hTT
          clear hB hK hTT
          go_region_held3 (fun w' => w'.cell? ⟨x1.heap.size, 0, none⟩ = some (.int .i64 lo) ∧ w'.cell? ⟨x1.heap.size, 1, none⟩ = some (.int .i64 hi') ∧ w'.cell? ⟨x1.heap.size, 2, none⟩ = some (.slice A l.length c) ∧ w'.cell? ⟨x1.heap.size, 3, none⟩ = some (.bool week)) (first | (exact ⟨ca5, cb5, cc5, cd5⟩) | (exact ⟨ca4, cb4, cc4, cd4⟩) | go_keep)
            (first
              | (go_at_call 15; (with_reducible refine (G4.out _ _ _ K4.out T4.out).mono ?_); rintro e x5 ⟨rfl, hb2⟩
                 have B5 := Lib.hid (B4.out.trans (hb2.mono B4.out.size)); have K5 := Lib.hid (K4.out.grow hb2); have T5 := Lib.hid (T4.out.grow hb2)
                 have s5 : x1.heap.size < x5.heap.size := by have h9 := hb2.size; have h8 : (World.drew x4).heap.size = x4.heap.size := rfl; omega
                 have ca5 := (hb2.cell (p := ⟨x1.heap.size, 0, none⟩) s4).trans ca4; have cb5 := (hb2.cell (p := ⟨x1.heap.size, 1, none⟩) s4).trans cb4; have cc5 := (hb2.cell (p := ⟨x1.heap.size, 2, none⟩) s4).trans cc4; have cd5 := (hb2.cell (p := ⟨x1.heap.size, 3, none⟩) s4).trans cd4
                 clear hb2))
          go_wp2_with (first
            | (go_at_call 14; (with_reducible refine (works_true _ T5.out).mono ?_); rintro e x6 ⟨rfl, hb2⟩
               have B6 := Lib.hid (B5.out.trans (hb2.mono B5.out.size)); clear hb2))
          all_goals (go_ret; exact ⟨rfl, B6.out⟩)
        · obtain ⟨hyx, hg10⟩ := pl3 rfl
          have hyy := hyx.symm
          subst hyy
          rcases hgg with rfl | rfl | rfl
          · clear hg10
            have a1 : IntKind.i64.wrap ((x : Int) + 1) = (x : Int) + 1 := IntWalk.i64_in _ (by omega)
            have a2 : (x : Int) ≤ (s.size : Int) := by omega
            have a3 : (x : Int) + 1 ≤ (s.size : Int) := by omega
            have a4 : (0 : Int) ≤ (x : Int) := by omega
            have a5 : (0 : Int) ≤ (x : Int) + 1 := by omega
            have a6 : ((x : Int) + 1).toNat = x + 1 := by omega
            have a7 := str_add (s.extract 0 (x + 1)) t (by rw [ByteArray.size_extract]; omega)
            have a8 := str_add (s.extract 0 x) (⟨#[49]⟩ : ByteArray) (by rw [ByteArray.size_extract]; show _ + 1 ≤ _; omega)
            clear hsix hT hk f1 f2 f3 f4 f5 f6 f7 f8 w0 w1 w2
            generalize Fs.full (kind lo hi l week) = fu at *
            generalize hhi : hi = hi' at *
            go_enter Tryz.func12, Tryz.ntmps12
            go_wp2_with (first
              | (go_at_call 32; (with_reducible refine (H6.out _ HT.out).mono ?_); rintro e x1 ⟨A, c, rfl, hb1, hk1⟩
                 have B1 := Lib.hid hb1; have K1 := Lib.hid hk1; have T1 := Lib.hid (HT.out.grow hb1); clear hb1 hk1)
              | (go_at_call 15; (with_reducible refine (G1.out _ _ _ (K1.out.alloc _) (T1.out.alloc _)).mono ?_); rintro e x2 ⟨rfl, hb2⟩
                 obtain ⟨hc2, hf2⟩ := bcell hb2; have s2 : x1.heap.size < x2.heap.size := by have := hb2.size; simp at this; omega
                 have B2 := Lib.hid ((B1.out.alloc B1.out.size _).trans (hb2.mono (by have := B1.out.size; simp; omega))); have K2 := Lib.hid ((K1.out.alloc _).grow hb2); have T2 := Lib.hid ((T1.out.alloc _).grow hb2); clear hb2))
            have ca2 : x2.cell? ⟨x1.heap.size, 0, none⟩ = some (.int .i64 lo) := (hc2 _ 0 (by simp)).trans (by rw [World.cell?_alloc_at _ _ _ _ rfl]; rfl)
            have cb2 : x2.cell? ⟨x1.heap.size, 1, none⟩ = some (.int .i64 hi') := (hc2 _ 1 (by simp)).trans (by rw [World.cell?_alloc_at _ _ _ _ rfl]; rfl)
            have cc2 : x2.cell? ⟨x1.heap.size, 2, none⟩ = some (.slice A l.length c) := (hc2 _ 2 (by simp)).trans (by rw [World.cell?_alloc_at _ _ _ _ rfl]; rfl)
            have cd2 : x2.cell? ⟨x1.heap.size, 3, none⟩ = some (.bool week) := (hc2 _ 3 (by simp)).trans (by rw [World.cell?_alloc_at _ _ _ _ rfl]; rfl)
            clear hc2 hf2
            have hB := B2.out.drew; have hK := K2.out.grow (Below.refl x2.heap.size x2).drew; have hTT := T2.out.drew
            clear B2 K2 T2
            have B2 := Lib.hid hB; have K2 := Lib.hid hK; have T2 := Lib.hid hTT
            clear hB hK hTT
            go_region_held3 (fun w' => w'.cell? ⟨x1.heap.size, 0, none⟩ = some (.int .i64 lo) ∧ w'.cell? ⟨x1.heap.size, 1, none⟩ = some (.int .i64 hi') ∧ w'.cell? ⟨x1.heap.size, 2, none⟩ = some (.slice A l.length c) ∧ w'.cell? ⟨x1.heap.size, 3, none⟩ = some (.bool week)) (first | (exact ⟨ca3, cb3, cc3, cd3⟩) | (exact ⟨ca2, cb2, cc2, cd2⟩) | go_keep)
              (first
                | (go_at_call 15; (with_reducible refine (G2.out _ _ _ K2.out T2.out).mono ?_); rintro e x3 ⟨rfl, hb2⟩
                   have B3 := Lib.hid (B2.out.trans (hb2.mono B2.out.size)); have K3 := Lib.hid (K2.out.grow hb2); have T3 := Lib.hid (T2.out.grow hb2)
                   have s3 : x1.heap.size < x3.heap.size := by have h9 := hb2.size; have h8 : (World.drew x2).heap.size = x2.heap.size := rfl; omega
                   have ca3 := (hb2.cell (p := ⟨x1.heap.size, 0, none⟩) s2).trans ca2; have cb3 := (hb2.cell (p := ⟨x1.heap.size, 1, none⟩) s2).trans cb2; have cc3 := (hb2.cell (p := ⟨x1.heap.size, 2, none⟩) s2).trans cc2; have cd3 := (hb2.cell (p := ⟨x1.heap.size, 3, none⟩) s2).trans cd2
                   clear hb2))
            go_wp2_with (first
              | (go_at_call 14; (with_reducible refine (works_true _ T3.out).mono ?_); rintro e x4 ⟨rfl, hb2⟩
                 have B4 := Lib.hid (B3.out.trans (hb2.mono B3.out.size)); clear hb2))
            have hB := B3.out.drew; have hK := K3.out.grow (Below.refl x3.heap.size x3).drew; have hTT := T3.out.drew
            clear B3 K3 T3
            have B3 := Lib.hid hB; have K3 := Lib.hid hK; have T3 := Lib.hid hTT
            clear hB hK hTT
            go_region_held3 (fun w' => w'.cell? ⟨x1.heap.size, 0, none⟩ = some (.int .i64 lo) ∧ w'.cell? ⟨x1.heap.size, 1, none⟩ = some (.int .i64 hi') ∧ w'.cell? ⟨x1.heap.size, 2, none⟩ = some (.slice A l.length c) ∧ w'.cell? ⟨x1.heap.size, 3, none⟩ = some (.bool week)) (first | (exact ⟨ca4, cb4, cc4, cd4⟩) | (exact ⟨ca3, cb3, cc3, cd3⟩) | go_keep)
              (first
                | (go_at_call 15; (with_reducible refine (G3.out _ _ _ K3.out T3.out).mono ?_); rintro e x4 ⟨rfl, hb2⟩
                   have B4 := Lib.hid (B3.out.trans (hb2.mono B3.out.size)); have K4 := Lib.hid (K3.out.grow hb2); have T4 := Lib.hid (T3.out.grow hb2)
                   have s4 : x1.heap.size < x4.heap.size := by have h9 := hb2.size; have h8 : (World.drew x3).heap.size = x3.heap.size := rfl; omega
                   have ca4 := (hb2.cell (p := ⟨x1.heap.size, 0, none⟩) s3).trans ca3; have cb4 := (hb2.cell (p := ⟨x1.heap.size, 1, none⟩) s3).trans cb3; have cc4 := (hb2.cell (p := ⟨x1.heap.size, 2, none⟩) s3).trans cc3; have cd4 := (hb2.cell (p := ⟨x1.heap.size, 3, none⟩) s3).trans cd3
                   clear hb2))
            go_wp2_with (first
              | (go_at_call 14; (with_reducible refine (works_true _ T4.out).mono ?_); rintro e x5 ⟨rfl, hb2⟩
                 have B5 := Lib.hid (B4.out.trans (hb2.mono B4.out.size)); clear hb2))
            have hB := B4.out.drew; have hK := K4.out.grow (Below.refl x4.heap.size x4).drew; have hTT := T4.out.drew
            clear B4 K4 T4
            have B4 := Lib.hid hB; have K4 := Lib.hid hK; have T4 := Lib.hid hTT
            clear hB hK hTT
            go_region_held3 (fun w' => w'.cell? ⟨x1.heap.size, 0, none⟩ = some (.int .i64 lo) ∧ w'.cell? ⟨x1.heap.size, 1, none⟩ = some (.int .i64 hi') ∧ w'.cell? ⟨x1.heap.size, 2, none⟩ = some (.slice A l.length c) ∧ w'.cell? ⟨x1.heap.size, 3, none⟩ = some (.bool week)) (first | (exact ⟨ca5, cb5, cc5, cd5⟩) | (exact ⟨ca4, cb4, cc4, cd4⟩) | go_keep)
              (first
                | (go_at_call 15; (with_reducible refine (G4.out _ _ _ K4.out T4.out).mono ?_); rintro e x5 ⟨rfl, hb2⟩
                   have B5 := Lib.hid (B4.out.trans (hb2.mono B4.out.size)); have K5 := Lib.hid (K4.out.grow hb2); have T5 := Lib.hid (T4.out.grow hb2)
                   have s5 : x1.heap.size < x5.heap.size := by have h9 := hb2.size; have h8 : (World.drew x4).heap.size = x4.heap.size := rfl; omega
                   have ca5 := (hb2.cell (p := ⟨x1.heap.size, 0, none⟩) s4).trans ca4; have cb5 := (hb2.cell (p := ⟨x1.heap.size, 1, none⟩) s4).trans cb4; have cc5 := (hb2.cell (p := ⟨x1.heap.size, 2, none⟩) s4).trans cc4; have cd5 := (hb2.cell (p := ⟨x1.heap.size, 3, none⟩) s4).trans cd4
                   clear hb2))
            go_wp2_with (first
              | (go_at_call 14; (with_reducible refine (works_true _ T5.out).mono ?_); rintro e x6 ⟨rfl, hb2⟩
                 have B6 := Lib.hid (B5.out.trans (hb2.mono B5.out.size)); clear hb2))
            all_goals (go_ret; exact ⟨rfl, B6.out⟩)
          · clear hg10
            have a1 : IntKind.i64.wrap ((x : Int) + 1) = (x : Int) + 1 := IntWalk.i64_in _ (by omega)
            have a2 : (x : Int) ≤ (s.size : Int) := by omega
            have a3 : (x : Int) + 1 ≤ (s.size : Int) := by omega
            have a4 : (0 : Int) ≤ (x : Int) := by omega
            have a5 : (0 : Int) ≤ (x : Int) + 1 := by omega
            have a6 : ((x : Int) + 1).toNat = x + 1 := by omega
            have a7 := str_add (s.extract 0 (x + 1)) t (by rw [ByteArray.size_extract]; omega)
            have a8 := str_add (s.extract 0 x) (⟨#[49]⟩ : ByteArray) (by rw [ByteArray.size_extract]; show _ + 1 ≤ _; omega)
            clear hsix hT hk f1 f2 f3 f4 f5 f6 f7 f8 w0 w1 w2
            generalize Fs.full (kind lo hi l week) = fu at *
            generalize hhi : hi = hi' at *
            go_enter Tryz.func12, Tryz.ntmps12
            go_wp2_with (first
              | (go_at_call 32; (with_reducible refine (H6.out _ HT.out).mono ?_); rintro e x1 ⟨A, c, rfl, hb1, hk1⟩
                 have B1 := Lib.hid hb1; have K1 := Lib.hid hk1; have T1 := Lib.hid (HT.out.grow hb1); clear hb1 hk1)
              | (go_at_call 15; (with_reducible refine (G1.out _ _ _ (K1.out.alloc _) (T1.out.alloc _)).mono ?_); rintro e x2 ⟨rfl, hb2⟩
                 obtain ⟨hc2, hf2⟩ := bcell hb2; have s2 : x1.heap.size < x2.heap.size := by have := hb2.size; simp at this; omega
                 have B2 := Lib.hid ((B1.out.alloc B1.out.size _).trans (hb2.mono (by have := B1.out.size; simp; omega))); have K2 := Lib.hid ((K1.out.alloc _).grow hb2); have T2 := Lib.hid ((T1.out.alloc _).grow hb2); clear hb2))
            have ca2 : x2.cell? ⟨x1.heap.size, 0, none⟩ = some (.int .i64 lo) := (hc2 _ 0 (by simp)).trans (by rw [World.cell?_alloc_at _ _ _ _ rfl]; rfl)
            have cb2 : x2.cell? ⟨x1.heap.size, 1, none⟩ = some (.int .i64 hi') := (hc2 _ 1 (by simp)).trans (by rw [World.cell?_alloc_at _ _ _ _ rfl]; rfl)
            have cc2 : x2.cell? ⟨x1.heap.size, 2, none⟩ = some (.slice A l.length c) := (hc2 _ 2 (by simp)).trans (by rw [World.cell?_alloc_at _ _ _ _ rfl]; rfl)
            have cd2 : x2.cell? ⟨x1.heap.size, 3, none⟩ = some (.bool week) := (hc2 _ 3 (by simp)).trans (by rw [World.cell?_alloc_at _ _ _ _ rfl]; rfl)
            clear hc2 hf2
            have hB := B2.out.drew; have hK := K2.out.grow (Below.refl x2.heap.size x2).drew; have hTT := T2.out.drew
            clear B2 K2 T2
            have B2 := Lib.hid hB; have K2 := Lib.hid hK; have T2 := Lib.hid hTT
            clear hB hK hTT
            go_region_held3 (fun w' => w'.cell? ⟨x1.heap.size, 0, none⟩ = some (.int .i64 lo) ∧ w'.cell? ⟨x1.heap.size, 1, none⟩ = some (.int .i64 hi') ∧ w'.cell? ⟨x1.heap.size, 2, none⟩ = some (.slice A l.length c) ∧ w'.cell? ⟨x1.heap.size, 3, none⟩ = some (.bool week)) (first | (exact ⟨ca3, cb3, cc3, cd3⟩) | (exact ⟨ca2, cb2, cc2, cd2⟩) | go_keep)
              (first
                | (go_at_call 15; (with_reducible refine (G2.out _ _ _ K2.out T2.out).mono ?_); rintro e x3 ⟨rfl, hb2⟩
                   have B3 := Lib.hid (B2.out.trans (hb2.mono B2.out.size)); have K3 := Lib.hid (K2.out.grow hb2); have T3 := Lib.hid (T2.out.grow hb2)
                   have s3 : x1.heap.size < x3.heap.size := by have h9 := hb2.size; have h8 : (World.drew x2).heap.size = x2.heap.size := rfl; omega
                   have ca3 := (hb2.cell (p := ⟨x1.heap.size, 0, none⟩) s2).trans ca2; have cb3 := (hb2.cell (p := ⟨x1.heap.size, 1, none⟩) s2).trans cb2; have cc3 := (hb2.cell (p := ⟨x1.heap.size, 2, none⟩) s2).trans cc2; have cd3 := (hb2.cell (p := ⟨x1.heap.size, 3, none⟩) s2).trans cd2
                   clear hb2))
            go_wp2_with (first
              | (go_at_call 14; (with_reducible refine (works_true _ T3.out).mono ?_); rintro e x4 ⟨rfl, hb2⟩
                 have B4 := Lib.hid (B3.out.trans (hb2.mono B3.out.size)); clear hb2))
            have hB := B3.out.drew; have hK := K3.out.grow (Below.refl x3.heap.size x3).drew; have hTT := T3.out.drew
            clear B3 K3 T3
            have B3 := Lib.hid hB; have K3 := Lib.hid hK; have T3 := Lib.hid hTT
            clear hB hK hTT
            go_region_held3 (fun w' => w'.cell? ⟨x1.heap.size, 0, none⟩ = some (.int .i64 lo) ∧ w'.cell? ⟨x1.heap.size, 1, none⟩ = some (.int .i64 hi') ∧ w'.cell? ⟨x1.heap.size, 2, none⟩ = some (.slice A l.length c) ∧ w'.cell? ⟨x1.heap.size, 3, none⟩ = some (.bool week)) (first | (exact ⟨ca4, cb4, cc4, cd4⟩) | (exact ⟨ca3, cb3, cc3, cd3⟩) | go_keep)
              (first
                | (go_at_call 15; (with_reducible refine (G3.out _ _ _ K3.out T3.out).mono ?_); rintro e x4 ⟨rfl, hb2⟩
                   have B4 := Lib.hid (B3.out.trans (hb2.mono B3.out.size)); have K4 := Lib.hid (K3.out.grow hb2); have T4 := Lib.hid (T3.out.grow hb2)
                   have s4 : x1.heap.size < x4.heap.size := by have h9 := hb2.size; have h8 : (World.drew x3).heap.size = x3.heap.size := rfl; omega
                   have ca4 := (hb2.cell (p := ⟨x1.heap.size, 0, none⟩) s3).trans ca3; have cb4 := (hb2.cell (p := ⟨x1.heap.size, 1, none⟩) s3).trans cb3; have cc4 := (hb2.cell (p := ⟨x1.heap.size, 2, none⟩) s3).trans cc3; have cd4 := (hb2.cell (p := ⟨x1.heap.size, 3, none⟩) s3).trans cd3
                   clear hb2))
            go_wp2_with (first
              | (go_at_call 14; (with_reducible refine (works_true _ T4.out).mono ?_); rintro e x5 ⟨rfl, hb2⟩
                 have B5 := Lib.hid (B4.out.trans (hb2.mono B4.out.size)); clear hb2))
            have hB := B4.out.drew; have hK := K4.out.grow (Below.refl x4.heap.size x4).drew; have hTT := T4.out.drew
            clear B4 K4 T4
            have B4 := Lib.hid hB; have K4 := Lib.hid hK; have T4 := Lib.hid hTT
            clear hB hK hTT
            go_region_held3 (fun w' => w'.cell? ⟨x1.heap.size, 0, none⟩ = some (.int .i64 lo) ∧ w'.cell? ⟨x1.heap.size, 1, none⟩ = some (.int .i64 hi') ∧ w'.cell? ⟨x1.heap.size, 2, none⟩ = some (.slice A l.length c) ∧ w'.cell? ⟨x1.heap.size, 3, none⟩ = some (.bool week)) (first | (exact ⟨ca5, cb5, cc5, cd5⟩) | (exact ⟨ca4, cb4, cc4, cd4⟩) | go_keep)
              (first
                | (go_at_call 15; (with_reducible refine (G4.out _ _ _ K4.out T4.out).mono ?_); rintro e x5 ⟨rfl, hb2⟩
                   have B5 := Lib.hid (B4.out.trans (hb2.mono B4.out.size)); have K5 := Lib.hid (K4.out.grow hb2); have T5 := Lib.hid (T4.out.grow hb2)
                   have s5 : x1.heap.size < x5.heap.size := by have h9 := hb2.size; have h8 : (World.drew x4).heap.size = x4.heap.size := rfl; omega
                   have ca5 := (hb2.cell (p := ⟨x1.heap.size, 0, none⟩) s4).trans ca4; have cb5 := (hb2.cell (p := ⟨x1.heap.size, 1, none⟩) s4).trans cb4; have cc5 := (hb2.cell (p := ⟨x1.heap.size, 2, none⟩) s4).trans cc4; have cd5 := (hb2.cell (p := ⟨x1.heap.size, 3, none⟩) s4).trans cd4
                   clear hb2))
            go_wp2_with (first
              | (go_at_call 14; (with_reducible refine (works_true _ T5.out).mono ?_); rintro e x6 ⟨rfl, hb2⟩
                 have B6 := Lib.hid (B5.out.trans (hb2.mono B5.out.size)); clear hb2))
            all_goals (go_ret; exact ⟨rfl, B6.out⟩)
          · exact absurd rfl hg10
      · have hlet : ∀ c, s.data.toList[x]? = some c → Fs.letterB c = false := by
          intro c hc
          rw [hg] at hc; injection hc with hc; subst hc
          simp only [Fs.letterB, Bool.or_eq_false_iff, Bool.and_eq_false_iff, decide_eq_false_iff_not]
          omega
        clear hg
        obtain ⟨pl1, pl2, pl3⟩ := hpl x rfl rfl hlet
        rcases hr : Fs.parse (kind lo hi l week) (s.data.toList.take x) with ⟨b, is, y, f⟩
        rw [hr] at hfl pl3
        simp only at hfl pl3
        have hff : f = 0 ∨ f = 2 ∨ f = 10 := by omega
        have pl2 := pl2 hxs t.data.toList
        rcases hu : Fs.parse (kind lo hi l week) ((s.data.toList.take x) ++ [49]) with ⟨b', is', y', g⟩
        rw [hu] at hgl pl3
        simp only at hgl pl3
        have hgg : g = 0 ∨ g = 2 ∨ g = 10 := by omega
        clear hfl hgl
        have G2 : Hid (∀ A c W, KindAt W (n % 6) lo hi A c l week → Tabs W → Calls Tryz.prog 15 #[.agg #[.int .i64 lo, .int .i64 hi, .slice A l.length c, .bool week], .string (s.extract 0 (x + 1) ++ t)] W fun e w' => e = .returned (.tuple #[.int .u64 0, .bool false, .int .i64 x, .int .i64 10]) ∧ Below W.heap.size W w') :=
          Lib.hid fun A c W h hT => by have := kd_Parse h hT (s.extract 0 (x + 1) ++ t) (et _); rw [q1, pl2] at this; exact this
        have G3 : Hid (∀ A c W, KindAt W (n % 6) lo hi A c l week → Tabs W → Calls Tryz.prog 15 #[.agg #[.int .i64 lo, .int .i64 hi, .slice A l.length c, .bool week], .string (s.extract 0 x)] W fun e w' => e = .returned (.tuple #[.int .u64 b, .bool is, .int .i64 y, .int .i64 f]) ∧ Below W.heap.size W w') :=
          Lib.hid fun A c W h hT => by have := kd_Parse h hT (s.extract 0 x) (e0 _); rw [take_extract, hr] at this; exact this
        have G4 : Hid (∀ A c W, KindAt W (n % 6) lo hi A c l week → Tabs W → Calls Tryz.prog 15 #[.agg #[.int .i64 lo, .int .i64 hi, .slice A l.length c, .bool week], .string (s.extract 0 x ++ (⟨#[49]⟩ : ByteArray))] W fun e w' => e = .returned (.tuple #[.int .u64 b', .bool is', .int .i64 y', .int .i64 g]) ∧ Below W.heap.size W w') :=
          Lib.hid fun A c W h hT => by have := kd_Parse h hT (s.extract 0 x ++ (⟨#[49]⟩ : ByteArray)) (e9 _); rw [q9, hu] at this; exact this
        clear hu hp et e0 e9 q1 q9 hpl hlet hr pl1 pl2
        rcases hff with rfl | rfl | rfl
        · clear hgg pl3
          have a1 : IntKind.i64.wrap ((x : Int) + 1) = (x : Int) + 1 := IntWalk.i64_in _ (by omega)
          have a2 : (x : Int) ≤ (s.size : Int) := by omega
          have a3 : (x : Int) + 1 ≤ (s.size : Int) := by omega
          have a4 : (0 : Int) ≤ (x : Int) := by omega
          have a5 : (0 : Int) ≤ (x : Int) + 1 := by omega
          have a6 : ((x : Int) + 1).toNat = x + 1 := by omega
          have a7 := str_add (s.extract 0 (x + 1)) t (by rw [ByteArray.size_extract]; omega)
          have a8 := str_add (s.extract 0 x) (⟨#[49]⟩ : ByteArray) (by rw [ByteArray.size_extract]; show _ + 1 ≤ _; omega)
          clear hsix hT hk f1 f2 f3 f4 f5 f6 f7 f8 w0 w1 w2
          generalize Fs.full (kind lo hi l week) = fu at *
          generalize hhi : hi = hi' at *
          go_enter Tryz.func12, Tryz.ntmps12
          go_wp2_with (first
            | (go_at_call 32; (with_reducible refine (H6.out _ HT.out).mono ?_); rintro e x1 ⟨A, c, rfl, hb1, hk1⟩
               have B1 := Lib.hid hb1; have K1 := Lib.hid hk1; have T1 := Lib.hid (HT.out.grow hb1); clear hb1 hk1)
            | (go_at_call 15; (with_reducible refine (G1.out _ _ _ (K1.out.alloc _) (T1.out.alloc _)).mono ?_); rintro e x2 ⟨rfl, hb2⟩
               obtain ⟨hc2, hf2⟩ := bcell hb2; have s2 : x1.heap.size < x2.heap.size := by have := hb2.size; simp at this; omega
               have B2 := Lib.hid ((B1.out.alloc B1.out.size _).trans (hb2.mono (by have := B1.out.size; simp; omega))); have K2 := Lib.hid ((K1.out.alloc _).grow hb2); have T2 := Lib.hid ((T1.out.alloc _).grow hb2); clear hb2))
          have ca2 : x2.cell? ⟨x1.heap.size, 0, none⟩ = some (.int .i64 lo) := (hc2 _ 0 (by simp)).trans (by rw [World.cell?_alloc_at _ _ _ _ rfl]; rfl)
          have cb2 : x2.cell? ⟨x1.heap.size, 1, none⟩ = some (.int .i64 hi') := (hc2 _ 1 (by simp)).trans (by rw [World.cell?_alloc_at _ _ _ _ rfl]; rfl)
          have cc2 : x2.cell? ⟨x1.heap.size, 2, none⟩ = some (.slice A l.length c) := (hc2 _ 2 (by simp)).trans (by rw [World.cell?_alloc_at _ _ _ _ rfl]; rfl)
          have cd2 : x2.cell? ⟨x1.heap.size, 3, none⟩ = some (.bool week) := (hc2 _ 3 (by simp)).trans (by rw [World.cell?_alloc_at _ _ _ _ rfl]; rfl)
          clear hc2 hf2
          have hB := B2.out.drew; have hK := K2.out.grow (Below.refl x2.heap.size x2).drew; have hTT := T2.out.drew
          clear B2 K2 T2
          have B2 := Lib.hid hB; have K2 := Lib.hid hK; have T2 := Lib.hid hTT
          clear hB hK hTT
          go_region_held3 (fun w' => w'.cell? ⟨x1.heap.size, 0, none⟩ = some (.int .i64 lo) ∧ w'.cell? ⟨x1.heap.size, 1, none⟩ = some (.int .i64 hi') ∧ w'.cell? ⟨x1.heap.size, 2, none⟩ = some (.slice A l.length c) ∧ w'.cell? ⟨x1.heap.size, 3, none⟩ = some (.bool week)) (first | (exact ⟨ca3, cb3, cc3, cd3⟩) | (exact ⟨ca2, cb2, cc2, cd2⟩) | go_keep)
            (first
              | (go_at_call 15; (with_reducible refine (G2.out _ _ _ K2.out T2.out).mono ?_); rintro e x3 ⟨rfl, hb2⟩
                 have B3 := Lib.hid (B2.out.trans (hb2.mono B2.out.size)); have K3 := Lib.hid (K2.out.grow hb2); have T3 := Lib.hid (T2.out.grow hb2)
                 have s3 : x1.heap.size < x3.heap.size := by have h9 := hb2.size; have h8 : (World.drew x2).heap.size = x2.heap.size := rfl; omega
                 have ca3 := (hb2.cell (p := ⟨x1.heap.size, 0, none⟩) s2).trans ca2; have cb3 := (hb2.cell (p := ⟨x1.heap.size, 1, none⟩) s2).trans cb2; have cc3 := (hb2.cell (p := ⟨x1.heap.size, 2, none⟩) s2).trans cc2; have cd3 := (hb2.cell (p := ⟨x1.heap.size, 3, none⟩) s2).trans cd2
                 clear hb2))
          go_wp2_with (first
            | (go_at_call 14; (with_reducible refine (works_true _ T3.out).mono ?_); rintro e x4 ⟨rfl, hb2⟩
               have B4 := Lib.hid (B3.out.trans (hb2.mono B3.out.size)); clear hb2))
          have hB := B3.out.drew; have hK := K3.out.grow (Below.refl x3.heap.size x3).drew; have hTT := T3.out.drew
          clear B3 K3 T3
          have B3 := Lib.hid hB; have K3 := Lib.hid hK; have T3 := Lib.hid hTT
          clear hB hK hTT
          go_region_held3 (fun w' => w'.cell? ⟨x1.heap.size, 0, none⟩ = some (.int .i64 lo) ∧ w'.cell? ⟨x1.heap.size, 1, none⟩ = some (.int .i64 hi') ∧ w'.cell? ⟨x1.heap.size, 2, none⟩ = some (.slice A l.length c) ∧ w'.cell? ⟨x1.heap.size, 3, none⟩ = some (.bool week)) (first | (exact ⟨ca4, cb4, cc4, cd4⟩) | (exact ⟨ca3, cb3, cc3, cd3⟩) | go_keep)
            (first
              | (go_at_call 15; (with_reducible refine (G3.out _ _ _ K3.out T3.out).mono ?_); rintro e x4 ⟨rfl, hb2⟩
                 have B4 := Lib.hid (B3.out.trans (hb2.mono B3.out.size)); have K4 := Lib.hid (K3.out.grow hb2); have T4 := Lib.hid (T3.out.grow hb2)
                 have s4 : x1.heap.size < x4.heap.size := by have h9 := hb2.size; have h8 : (World.drew x3).heap.size = x3.heap.size := rfl; omega
                 have ca4 := (hb2.cell (p := ⟨x1.heap.size, 0, none⟩) s3).trans ca3; have cb4 := (hb2.cell (p := ⟨x1.heap.size, 1, none⟩) s3).trans cb3; have cc4 := (hb2.cell (p := ⟨x1.heap.size, 2, none⟩) s3).trans cc3; have cd4 := (hb2.cell (p := ⟨x1.heap.size, 3, none⟩) s3).trans cd3
                 clear hb2))
          go_wp2_with (first
            | (go_at_call 14; (with_reducible refine (works_true _ T4.out).mono ?_); rintro e x5 ⟨rfl, hb2⟩
               have B5 := Lib.hid (B4.out.trans (hb2.mono B4.out.size)); clear hb2))
          have hB := B4.out.drew; have hK := K4.out.grow (Below.refl x4.heap.size x4).drew; have hTT := T4.out.drew
          clear B4 K4 T4
          have B4 := Lib.hid hB; have K4 := Lib.hid hK; have T4 := Lib.hid hTT
          clear hB hK hTT
          go_region_held3 (fun w' => w'.cell? ⟨x1.heap.size, 0, none⟩ = some (.int .i64 lo) ∧ w'.cell? ⟨x1.heap.size, 1, none⟩ = some (.int .i64 hi') ∧ w'.cell? ⟨x1.heap.size, 2, none⟩ = some (.slice A l.length c) ∧ w'.cell? ⟨x1.heap.size, 3, none⟩ = some (.bool week)) (first | (exact ⟨ca5, cb5, cc5, cd5⟩) | (exact ⟨ca4, cb4, cc4, cd4⟩) | go_keep)
            (first
              | (go_at_call 15; (with_reducible refine (G4.out _ _ _ K4.out T4.out).mono ?_); rintro e x5 ⟨rfl, hb2⟩
                 have B5 := Lib.hid (B4.out.trans (hb2.mono B4.out.size)); have K5 := Lib.hid (K4.out.grow hb2); have T5 := Lib.hid (T4.out.grow hb2)
                 have s5 : x1.heap.size < x5.heap.size := by have h9 := hb2.size; have h8 : (World.drew x4).heap.size = x4.heap.size := rfl; omega
                 have ca5 := (hb2.cell (p := ⟨x1.heap.size, 0, none⟩) s4).trans ca4; have cb5 := (hb2.cell (p := ⟨x1.heap.size, 1, none⟩) s4).trans cb4; have cc5 := (hb2.cell (p := ⟨x1.heap.size, 2, none⟩) s4).trans cc4; have cd5 := (hb2.cell (p := ⟨x1.heap.size, 3, none⟩) s4).trans cd4
                 clear hb2))
          go_wp2_with (first
            | (go_at_call 14; (with_reducible refine (works_true _ T5.out).mono ?_); rintro e x6 ⟨rfl, hb2⟩
               have B6 := Lib.hid (B5.out.trans (hb2.mono B5.out.size)); clear hb2))
          all_goals (go_ret; exact ⟨rfl, B6.out⟩)
        · clear hgg pl3
          have a1 : IntKind.i64.wrap ((x : Int) + 1) = (x : Int) + 1 := IntWalk.i64_in _ (by omega)
          have a2 : (x : Int) ≤ (s.size : Int) := by omega
          have a3 : (x : Int) + 1 ≤ (s.size : Int) := by omega
          have a4 : (0 : Int) ≤ (x : Int) := by omega
          have a5 : (0 : Int) ≤ (x : Int) + 1 := by omega
          have a6 : ((x : Int) + 1).toNat = x + 1 := by omega
          have a7 := str_add (s.extract 0 (x + 1)) t (by rw [ByteArray.size_extract]; omega)
          have a8 := str_add (s.extract 0 x) (⟨#[49]⟩ : ByteArray) (by rw [ByteArray.size_extract]; show _ + 1 ≤ _; omega)
          clear hsix hT hk f1 f2 f3 f4 f5 f6 f7 f8 w0 w1 w2
          generalize Fs.full (kind lo hi l week) = fu at *
          generalize hhi : hi = hi' at *
          go_enter Tryz.func12, Tryz.ntmps12
          go_wp2_with (first
            | (go_at_call 32; (with_reducible refine (H6.out _ HT.out).mono ?_); rintro e x1 ⟨A, c, rfl, hb1, hk1⟩
               have B1 := Lib.hid hb1; have K1 := Lib.hid hk1; have T1 := Lib.hid (HT.out.grow hb1); clear hb1 hk1)
            | (go_at_call 15; (with_reducible refine (G1.out _ _ _ (K1.out.alloc _) (T1.out.alloc _)).mono ?_); rintro e x2 ⟨rfl, hb2⟩
               obtain ⟨hc2, hf2⟩ := bcell hb2; have s2 : x1.heap.size < x2.heap.size := by have := hb2.size; simp at this; omega
               have B2 := Lib.hid ((B1.out.alloc B1.out.size _).trans (hb2.mono (by have := B1.out.size; simp; omega))); have K2 := Lib.hid ((K1.out.alloc _).grow hb2); have T2 := Lib.hid ((T1.out.alloc _).grow hb2); clear hb2))
          have ca2 : x2.cell? ⟨x1.heap.size, 0, none⟩ = some (.int .i64 lo) := (hc2 _ 0 (by simp)).trans (by rw [World.cell?_alloc_at _ _ _ _ rfl]; rfl)
          have cb2 : x2.cell? ⟨x1.heap.size, 1, none⟩ = some (.int .i64 hi') := (hc2 _ 1 (by simp)).trans (by rw [World.cell?_alloc_at _ _ _ _ rfl]; rfl)
          have cc2 : x2.cell? ⟨x1.heap.size, 2, none⟩ = some (.slice A l.length c) := (hc2 _ 2 (by simp)).trans (by rw [World.cell?_alloc_at _ _ _ _ rfl]; rfl)
          have cd2 : x2.cell? ⟨x1.heap.size, 3, none⟩ = some (.bool week) := (hc2 _ 3 (by simp)).trans (by rw [World.cell?_alloc_at _ _ _ _ rfl]; rfl)
          clear hc2 hf2
          have hB := B2.out.drew; have hK := K2.out.grow (Below.refl x2.heap.size x2).drew; have hTT := T2.out.drew
          clear B2 K2 T2
          have B2 := Lib.hid hB; have K2 := Lib.hid hK; have T2 := Lib.hid hTT
          clear hB hK hTT
          go_region_held3 (fun w' => w'.cell? ⟨x1.heap.size, 0, none⟩ = some (.int .i64 lo) ∧ w'.cell? ⟨x1.heap.size, 1, none⟩ = some (.int .i64 hi') ∧ w'.cell? ⟨x1.heap.size, 2, none⟩ = some (.slice A l.length c) ∧ w'.cell? ⟨x1.heap.size, 3, none⟩ = some (.bool week)) (first | (exact ⟨ca3, cb3, cc3, cd3⟩) | (exact ⟨ca2, cb2, cc2, cd2⟩) | go_keep)
            (first
              | (go_at_call 15; (with_reducible refine (G2.out _ _ _ K2.out T2.out).mono ?_); rintro e x3 ⟨rfl, hb2⟩
                 have B3 := Lib.hid (B2.out.trans (hb2.mono B2.out.size)); have K3 := Lib.hid (K2.out.grow hb2); have T3 := Lib.hid (T2.out.grow hb2)
                 have s3 : x1.heap.size < x3.heap.size := by have h9 := hb2.size; have h8 : (World.drew x2).heap.size = x2.heap.size := rfl; omega
                 have ca3 := (hb2.cell (p := ⟨x1.heap.size, 0, none⟩) s2).trans ca2; have cb3 := (hb2.cell (p := ⟨x1.heap.size, 1, none⟩) s2).trans cb2; have cc3 := (hb2.cell (p := ⟨x1.heap.size, 2, none⟩) s2).trans cc2; have cd3 := (hb2.cell (p := ⟨x1.heap.size, 3, none⟩) s2).trans cd2
                 clear hb2))
          go_wp2_with (first
            | (go_at_call 14; (with_reducible refine (works_true _ T3.out).mono ?_); rintro e x4 ⟨rfl, hb2⟩
               have B4 := Lib.hid (B3.out.trans (hb2.mono B3.out.size)); clear hb2))
          have hB := B3.out.drew; have hK := K3.out.grow (Below.refl x3.heap.size x3).drew; have hTT := T3.out.drew
          clear B3 K3 T3
          have B3 := Lib.hid hB; have K3 := Lib.hid hK; have T3 := Lib.hid hTT
          clear hB hK hTT
          go_region_held3 (fun w' => w'.cell? ⟨x1.heap.size, 0, none⟩ = some (.int .i64 lo) ∧ w'.cell? ⟨x1.heap.size, 1, none⟩ = some (.int .i64 hi') ∧ w'.cell? ⟨x1.heap.size, 2, none⟩ = some (.slice A l.length c) ∧ w'.cell? ⟨x1.heap.size, 3, none⟩ = some (.bool week)) (first | (exact ⟨ca4, cb4, cc4, cd4⟩) | (exact ⟨ca3, cb3, cc3, cd3⟩) | go_keep)
            (first
              | (go_at_call 15; (with_reducible refine (G3.out _ _ _ K3.out T3.out).mono ?_); rintro e x4 ⟨rfl, hb2⟩
                 have B4 := Lib.hid (B3.out.trans (hb2.mono B3.out.size)); have K4 := Lib.hid (K3.out.grow hb2); have T4 := Lib.hid (T3.out.grow hb2)
                 have s4 : x1.heap.size < x4.heap.size := by have h9 := hb2.size; have h8 : (World.drew x3).heap.size = x3.heap.size := rfl; omega
                 have ca4 := (hb2.cell (p := ⟨x1.heap.size, 0, none⟩) s3).trans ca3; have cb4 := (hb2.cell (p := ⟨x1.heap.size, 1, none⟩) s3).trans cb3; have cc4 := (hb2.cell (p := ⟨x1.heap.size, 2, none⟩) s3).trans cc3; have cd4 := (hb2.cell (p := ⟨x1.heap.size, 3, none⟩) s3).trans cd3
                 clear hb2))
          go_wp2_with (first
            | (go_at_call 14; (with_reducible refine (works_true _ T4.out).mono ?_); rintro e x5 ⟨rfl, hb2⟩
               have B5 := Lib.hid (B4.out.trans (hb2.mono B4.out.size)); clear hb2))
          have hB := B4.out.drew; have hK := K4.out.grow (Below.refl x4.heap.size x4).drew; have hTT := T4.out.drew
          clear B4 K4 T4
          have B4 := Lib.hid hB; have K4 := Lib.hid hK; have T4 := Lib.hid hTT
          clear hB hK hTT
          go_region_held3 (fun w' => w'.cell? ⟨x1.heap.size, 0, none⟩ = some (.int .i64 lo) ∧ w'.cell? ⟨x1.heap.size, 1, none⟩ = some (.int .i64 hi') ∧ w'.cell? ⟨x1.heap.size, 2, none⟩ = some (.slice A l.length c) ∧ w'.cell? ⟨x1.heap.size, 3, none⟩ = some (.bool week)) (first | (exact ⟨ca5, cb5, cc5, cd5⟩) | (exact ⟨ca4, cb4, cc4, cd4⟩) | go_keep)
            (first
              | (go_at_call 15; (with_reducible refine (G4.out _ _ _ K4.out T4.out).mono ?_); rintro e x5 ⟨rfl, hb2⟩
                 have B5 := Lib.hid (B4.out.trans (hb2.mono B4.out.size)); have K5 := Lib.hid (K4.out.grow hb2); have T5 := Lib.hid (T4.out.grow hb2)
                 have s5 : x1.heap.size < x5.heap.size := by have h9 := hb2.size; have h8 : (World.drew x4).heap.size = x4.heap.size := rfl; omega
                 have ca5 := (hb2.cell (p := ⟨x1.heap.size, 0, none⟩) s4).trans ca4; have cb5 := (hb2.cell (p := ⟨x1.heap.size, 1, none⟩) s4).trans cb4; have cc5 := (hb2.cell (p := ⟨x1.heap.size, 2, none⟩) s4).trans cc4; have cd5 := (hb2.cell (p := ⟨x1.heap.size, 3, none⟩) s4).trans cd4
                 clear hb2))
          go_wp2_with (first
            | (go_at_call 14; (with_reducible refine (works_true _ T5.out).mono ?_); rintro e x6 ⟨rfl, hb2⟩
               have B6 := Lib.hid (B5.out.trans (hb2.mono B5.out.size)); clear hb2))
          all_goals (go_ret; exact ⟨rfl, B6.out⟩)
        · obtain ⟨hyx, hg10⟩ := pl3 rfl
          have hyy := hyx.symm
          subst hyy
          rcases hgg with rfl | rfl | rfl
          · clear hg10
            have a1 : IntKind.i64.wrap ((x : Int) + 1) = (x : Int) + 1 := IntWalk.i64_in _ (by omega)
            have a2 : (x : Int) ≤ (s.size : Int) := by omega
            have a3 : (x : Int) + 1 ≤ (s.size : Int) := by omega
            have a4 : (0 : Int) ≤ (x : Int) := by omega
            have a5 : (0 : Int) ≤ (x : Int) + 1 := by omega
            have a6 : ((x : Int) + 1).toNat = x + 1 := by omega
            have a7 := str_add (s.extract 0 (x + 1)) t (by rw [ByteArray.size_extract]; omega)
            have a8 := str_add (s.extract 0 x) (⟨#[49]⟩ : ByteArray) (by rw [ByteArray.size_extract]; show _ + 1 ≤ _; omega)
            clear hsix hT hk f1 f2 f3 f4 f5 f6 f7 f8 w0 w1 w2
            generalize Fs.full (kind lo hi l week) = fu at *
            generalize hhi : hi = hi' at *
            go_enter Tryz.func12, Tryz.ntmps12
            go_wp2_with (first
              | (go_at_call 32; (with_reducible refine (H6.out _ HT.out).mono ?_); rintro e x1 ⟨A, c, rfl, hb1, hk1⟩
                 have B1 := Lib.hid hb1; have K1 := Lib.hid hk1; have T1 := Lib.hid (HT.out.grow hb1); clear hb1 hk1)
              | (go_at_call 15; (with_reducible refine (G1.out _ _ _ (K1.out.alloc _) (T1.out.alloc _)).mono ?_); rintro e x2 ⟨rfl, hb2⟩
                 obtain ⟨hc2, hf2⟩ := bcell hb2; have s2 : x1.heap.size < x2.heap.size := by have := hb2.size; simp at this; omega
                 have B2 := Lib.hid ((B1.out.alloc B1.out.size _).trans (hb2.mono (by have := B1.out.size; simp; omega))); have K2 := Lib.hid ((K1.out.alloc _).grow hb2); have T2 := Lib.hid ((T1.out.alloc _).grow hb2); clear hb2))
            have ca2 : x2.cell? ⟨x1.heap.size, 0, none⟩ = some (.int .i64 lo) := (hc2 _ 0 (by simp)).trans (by rw [World.cell?_alloc_at _ _ _ _ rfl]; rfl)
            have cb2 : x2.cell? ⟨x1.heap.size, 1, none⟩ = some (.int .i64 hi') := (hc2 _ 1 (by simp)).trans (by rw [World.cell?_alloc_at _ _ _ _ rfl]; rfl)
            have cc2 : x2.cell? ⟨x1.heap.size, 2, none⟩ = some (.slice A l.length c) := (hc2 _ 2 (by simp)).trans (by rw [World.cell?_alloc_at _ _ _ _ rfl]; rfl)
            have cd2 : x2.cell? ⟨x1.heap.size, 3, none⟩ = some (.bool week) := (hc2 _ 3 (by simp)).trans (by rw [World.cell?_alloc_at _ _ _ _ rfl]; rfl)
            clear hc2 hf2
            have hB := B2.out.drew; have hK := K2.out.grow (Below.refl x2.heap.size x2).drew; have hTT := T2.out.drew
            clear B2 K2 T2
            have B2 := Lib.hid hB; have K2 := Lib.hid hK; have T2 := Lib.hid hTT
            clear hB hK hTT
            go_region_held3 (fun w' => w'.cell? ⟨x1.heap.size, 0, none⟩ = some (.int .i64 lo) ∧ w'.cell? ⟨x1.heap.size, 1, none⟩ = some (.int .i64 hi') ∧ w'.cell? ⟨x1.heap.size, 2, none⟩ = some (.slice A l.length c) ∧ w'.cell? ⟨x1.heap.size, 3, none⟩ = some (.bool week)) (first | (exact ⟨ca3, cb3, cc3, cd3⟩) | (exact ⟨ca2, cb2, cc2, cd2⟩) | go_keep)
              (first
                | (go_at_call 15; (with_reducible refine (G2.out _ _ _ K2.out T2.out).mono ?_); rintro e x3 ⟨rfl, hb2⟩
                   have B3 := Lib.hid (B2.out.trans (hb2.mono B2.out.size)); have K3 := Lib.hid (K2.out.grow hb2); have T3 := Lib.hid (T2.out.grow hb2)
                   have s3 : x1.heap.size < x3.heap.size := by have h9 := hb2.size; have h8 : (World.drew x2).heap.size = x2.heap.size := rfl; omega
                   have ca3 := (hb2.cell (p := ⟨x1.heap.size, 0, none⟩) s2).trans ca2; have cb3 := (hb2.cell (p := ⟨x1.heap.size, 1, none⟩) s2).trans cb2; have cc3 := (hb2.cell (p := ⟨x1.heap.size, 2, none⟩) s2).trans cc2; have cd3 := (hb2.cell (p := ⟨x1.heap.size, 3, none⟩) s2).trans cd2
                   clear hb2))
            go_wp2_with (first
              | (go_at_call 14; (with_reducible refine (works_true _ T3.out).mono ?_); rintro e x4 ⟨rfl, hb2⟩
                 have B4 := Lib.hid (B3.out.trans (hb2.mono B3.out.size)); clear hb2))
            have hB := B3.out.drew; have hK := K3.out.grow (Below.refl x3.heap.size x3).drew; have hTT := T3.out.drew
            clear B3 K3 T3
            have B3 := Lib.hid hB; have K3 := Lib.hid hK; have T3 := Lib.hid hTT
            clear hB hK hTT
            go_region_held3 (fun w' => w'.cell? ⟨x1.heap.size, 0, none⟩ = some (.int .i64 lo) ∧ w'.cell? ⟨x1.heap.size, 1, none⟩ = some (.int .i64 hi') ∧ w'.cell? ⟨x1.heap.size, 2, none⟩ = some (.slice A l.length c) ∧ w'.cell? ⟨x1.heap.size, 3, none⟩ = some (.bool week)) (first | (exact ⟨ca4, cb4, cc4, cd4⟩) | (exact ⟨ca3, cb3, cc3, cd3⟩) | go_keep)
              (first
                | (go_at_call 15; (with_reducible refine (G3.out _ _ _ K3.out T3.out).mono ?_); rintro e x4 ⟨rfl, hb2⟩
                   have B4 := Lib.hid (B3.out.trans (hb2.mono B3.out.size)); have K4 := Lib.hid (K3.out.grow hb2); have T4 := Lib.hid (T3.out.grow hb2)
                   have s4 : x1.heap.size < x4.heap.size := by have h9 := hb2.size; have h8 : (World.drew x3).heap.size = x3.heap.size := rfl; omega
                   have ca4 := (hb2.cell (p := ⟨x1.heap.size, 0, none⟩) s3).trans ca3; have cb4 := (hb2.cell (p := ⟨x1.heap.size, 1, none⟩) s3).trans cb3; have cc4 := (hb2.cell (p := ⟨x1.heap.size, 2, none⟩) s3).trans cc3; have cd4 := (hb2.cell (p := ⟨x1.heap.size, 3, none⟩) s3).trans cd3
                   clear hb2))
            go_wp2_with (first
              | (go_at_call 14; (with_reducible refine (works_true _ T4.out).mono ?_); rintro e x5 ⟨rfl, hb2⟩
                 have B5 := Lib.hid (B4.out.trans (hb2.mono B4.out.size)); clear hb2))
            have hB := B4.out.drew; have hK := K4.out.grow (Below.refl x4.heap.size x4).drew; have hTT := T4.out.drew
            clear B4 K4 T4
            have B4 := Lib.hid hB; have K4 := Lib.hid hK; have T4 := Lib.hid hTT
            clear hB hK hTT
            go_region_held3 (fun w' => w'.cell? ⟨x1.heap.size, 0, none⟩ = some (.int .i64 lo) ∧ w'.cell? ⟨x1.heap.size, 1, none⟩ = some (.int .i64 hi') ∧ w'.cell? ⟨x1.heap.size, 2, none⟩ = some (.slice A l.length c) ∧ w'.cell? ⟨x1.heap.size, 3, none⟩ = some (.bool week)) (first | (exact ⟨ca5, cb5, cc5, cd5⟩) | (exact ⟨ca4, cb4, cc4, cd4⟩) | go_keep)
              (first
                | (go_at_call 15; (with_reducible refine (G4.out _ _ _ K4.out T4.out).mono ?_); rintro e x5 ⟨rfl, hb2⟩
                   have B5 := Lib.hid (B4.out.trans (hb2.mono B4.out.size)); have K5 := Lib.hid (K4.out.grow hb2); have T5 := Lib.hid (T4.out.grow hb2)
                   have s5 : x1.heap.size < x5.heap.size := by have h9 := hb2.size; have h8 : (World.drew x4).heap.size = x4.heap.size := rfl; omega
                   have ca5 := (hb2.cell (p := ⟨x1.heap.size, 0, none⟩) s4).trans ca4; have cb5 := (hb2.cell (p := ⟨x1.heap.size, 1, none⟩) s4).trans cb4; have cc5 := (hb2.cell (p := ⟨x1.heap.size, 2, none⟩) s4).trans cc4; have cd5 := (hb2.cell (p := ⟨x1.heap.size, 3, none⟩) s4).trans cd4
                   clear hb2))
            go_wp2_with (first
              | (go_at_call 14; (with_reducible refine (works_true _ T5.out).mono ?_); rintro e x6 ⟨rfl, hb2⟩
                 have B6 := Lib.hid (B5.out.trans (hb2.mono B5.out.size)); clear hb2))
            all_goals (go_ret; exact ⟨rfl, B6.out⟩)
          · clear hg10
            have a1 : IntKind.i64.wrap ((x : Int) + 1) = (x : Int) + 1 := IntWalk.i64_in _ (by omega)
            have a2 : (x : Int) ≤ (s.size : Int) := by omega
            have a3 : (x : Int) + 1 ≤ (s.size : Int) := by omega
            have a4 : (0 : Int) ≤ (x : Int) := by omega
            have a5 : (0 : Int) ≤ (x : Int) + 1 := by omega
            have a6 : ((x : Int) + 1).toNat = x + 1 := by omega
            have a7 := str_add (s.extract 0 (x + 1)) t (by rw [ByteArray.size_extract]; omega)
            have a8 := str_add (s.extract 0 x) (⟨#[49]⟩ : ByteArray) (by rw [ByteArray.size_extract]; show _ + 1 ≤ _; omega)
            clear hsix hT hk f1 f2 f3 f4 f5 f6 f7 f8 w0 w1 w2
            generalize Fs.full (kind lo hi l week) = fu at *
            generalize hhi : hi = hi' at *
            go_enter Tryz.func12, Tryz.ntmps12
            go_wp2_with (first
              | (go_at_call 32; (with_reducible refine (H6.out _ HT.out).mono ?_); rintro e x1 ⟨A, c, rfl, hb1, hk1⟩
                 have B1 := Lib.hid hb1; have K1 := Lib.hid hk1; have T1 := Lib.hid (HT.out.grow hb1); clear hb1 hk1)
              | (go_at_call 15; (with_reducible refine (G1.out _ _ _ (K1.out.alloc _) (T1.out.alloc _)).mono ?_); rintro e x2 ⟨rfl, hb2⟩
                 obtain ⟨hc2, hf2⟩ := bcell hb2; have s2 : x1.heap.size < x2.heap.size := by have := hb2.size; simp at this; omega
                 have B2 := Lib.hid ((B1.out.alloc B1.out.size _).trans (hb2.mono (by have := B1.out.size; simp; omega))); have K2 := Lib.hid ((K1.out.alloc _).grow hb2); have T2 := Lib.hid ((T1.out.alloc _).grow hb2); clear hb2))
            have ca2 : x2.cell? ⟨x1.heap.size, 0, none⟩ = some (.int .i64 lo) := (hc2 _ 0 (by simp)).trans (by rw [World.cell?_alloc_at _ _ _ _ rfl]; rfl)
            have cb2 : x2.cell? ⟨x1.heap.size, 1, none⟩ = some (.int .i64 hi') := (hc2 _ 1 (by simp)).trans (by rw [World.cell?_alloc_at _ _ _ _ rfl]; rfl)
            have cc2 : x2.cell? ⟨x1.heap.size, 2, none⟩ = some (.slice A l.length c) := (hc2 _ 2 (by simp)).trans (by rw [World.cell?_alloc_at _ _ _ _ rfl]; rfl)
            have cd2 : x2.cell? ⟨x1.heap.size, 3, none⟩ = some (.bool week) := (hc2 _ 3 (by simp)).trans (by rw [World.cell?_alloc_at _ _ _ _ rfl]; rfl)
            clear hc2 hf2
            have hB := B2.out.drew; have hK := K2.out.grow (Below.refl x2.heap.size x2).drew; have hTT := T2.out.drew
            clear B2 K2 T2
            have B2 := Lib.hid hB; have K2 := Lib.hid hK; have T2 := Lib.hid hTT
            clear hB hK hTT
            go_region_held3 (fun w' => w'.cell? ⟨x1.heap.size, 0, none⟩ = some (.int .i64 lo) ∧ w'.cell? ⟨x1.heap.size, 1, none⟩ = some (.int .i64 hi') ∧ w'.cell? ⟨x1.heap.size, 2, none⟩ = some (.slice A l.length c) ∧ w'.cell? ⟨x1.heap.size, 3, none⟩ = some (.bool week)) (first | (exact ⟨ca3, cb3, cc3, cd3⟩) | (exact ⟨ca2, cb2, cc2, cd2⟩) | go_keep)
              (first
                | (go_at_call 15; (with_reducible refine (G2.out _ _ _ K2.out T2.out).mono ?_); rintro e x3 ⟨rfl, hb2⟩
                   have B3 := Lib.hid (B2.out.trans (hb2.mono B2.out.size)); have K3 := Lib.hid (K2.out.grow hb2); have T3 := Lib.hid (T2.out.grow hb2)
                   have s3 : x1.heap.size < x3.heap.size := by have h9 := hb2.size; have h8 : (World.drew x2).heap.size = x2.heap.size := rfl; omega
                   have ca3 := (hb2.cell (p := ⟨x1.heap.size, 0, none⟩) s2).trans ca2; have cb3 := (hb2.cell (p := ⟨x1.heap.size, 1, none⟩) s2).trans cb2; have cc3 := (hb2.cell (p := ⟨x1.heap.size, 2, none⟩) s2).trans cc2; have cd3 := (hb2.cell (p := ⟨x1.heap.size, 3, none⟩) s2).trans cd2
                   clear hb2))
            go_wp2_with (first
              | (go_at_call 14; (with_reducible refine (works_true _ T3.out).mono ?_); rintro e x4 ⟨rfl, hb2⟩
                 have B4 := Lib.hid (B3.out.trans (hb2.mono B3.out.size)); clear hb2))
            have hB := B3.out.drew; have hK := K3.out.grow (Below.refl x3.heap.size x3).drew; have hTT := T3.out.drew
            clear B3 K3 T3
            have B3 := Lib.hid hB; have K3 := Lib.hid hK; have T3 := Lib.hid hTT
            clear hB hK hTT
            go_region_held3 (fun w' => w'.cell? ⟨x1.heap.size, 0, none⟩ = some (.int .i64 lo) ∧ w'.cell? ⟨x1.heap.size, 1, none⟩ = some (.int .i64 hi') ∧ w'.cell? ⟨x1.heap.size, 2, none⟩ = some (.slice A l.length c) ∧ w'.cell? ⟨x1.heap.size, 3, none⟩ = some (.bool week)) (first | (exact ⟨ca4, cb4, cc4, cd4⟩) | (exact ⟨ca3, cb3, cc3, cd3⟩) | go_keep)
              (first
                | (go_at_call 15; (with_reducible refine (G3.out _ _ _ K3.out T3.out).mono ?_); rintro e x4 ⟨rfl, hb2⟩
                   have B4 := Lib.hid (B3.out.trans (hb2.mono B3.out.size)); have K4 := Lib.hid (K3.out.grow hb2); have T4 := Lib.hid (T3.out.grow hb2)
                   have s4 : x1.heap.size < x4.heap.size := by have h9 := hb2.size; have h8 : (World.drew x3).heap.size = x3.heap.size := rfl; omega
                   have ca4 := (hb2.cell (p := ⟨x1.heap.size, 0, none⟩) s3).trans ca3; have cb4 := (hb2.cell (p := ⟨x1.heap.size, 1, none⟩) s3).trans cb3; have cc4 := (hb2.cell (p := ⟨x1.heap.size, 2, none⟩) s3).trans cc3; have cd4 := (hb2.cell (p := ⟨x1.heap.size, 3, none⟩) s3).trans cd3
                   clear hb2))
            go_wp2_with (first
              | (go_at_call 14; (with_reducible refine (works_true _ T4.out).mono ?_); rintro e x5 ⟨rfl, hb2⟩
                 have B5 := Lib.hid (B4.out.trans (hb2.mono B4.out.size)); clear hb2))
            have hB := B4.out.drew; have hK := K4.out.grow (Below.refl x4.heap.size x4).drew; have hTT := T4.out.drew
            clear B4 K4 T4
            have B4 := Lib.hid hB; have K4 := Lib.hid hK; have T4 := Lib.hid hTT
            clear hB hK hTT
            go_region_held3 (fun w' => w'.cell? ⟨x1.heap.size, 0, none⟩ = some (.int .i64 lo) ∧ w'.cell? ⟨x1.heap.size, 1, none⟩ = some (.int .i64 hi') ∧ w'.cell? ⟨x1.heap.size, 2, none⟩ = some (.slice A l.length c) ∧ w'.cell? ⟨x1.heap.size, 3, none⟩ = some (.bool week)) (first | (exact ⟨ca5, cb5, cc5, cd5⟩) | (exact ⟨ca4, cb4, cc4, cd4⟩) | go_keep)
              (first
                | (go_at_call 15; (with_reducible refine (G4.out _ _ _ K4.out T4.out).mono ?_); rintro e x5 ⟨rfl, hb2⟩
                   have B5 := Lib.hid (B4.out.trans (hb2.mono B4.out.size)); have K5 := Lib.hid (K4.out.grow hb2); have T5 := Lib.hid (T4.out.grow hb2)
                   have s5 : x1.heap.size < x5.heap.size := by have h9 := hb2.size; have h8 : (World.drew x4).heap.size = x4.heap.size := rfl; omega
                   have ca5 := (hb2.cell (p := ⟨x1.heap.size, 0, none⟩) s4).trans ca4; have cb5 := (hb2.cell (p := ⟨x1.heap.size, 1, none⟩) s4).trans cb4; have cc5 := (hb2.cell (p := ⟨x1.heap.size, 2, none⟩) s4).trans cc4; have cd5 := (hb2.cell (p := ⟨x1.heap.size, 3, none⟩) s4).trans cd4
                   clear hb2))
            go_wp2_with (first
              | (go_at_call 14; (with_reducible refine (works_true _ T5.out).mono ?_); rintro e x6 ⟨rfl, hb2⟩
                 have B6 := Lib.hid (B5.out.trans (hb2.mono B5.out.size)); clear hb2))
            all_goals (go_ret; exact ⟨rfl, B6.out⟩)
          · exact absurd rfl hg10
    · have hlet : ∀ c, s.data.toList[x]? = some c → Fs.letterB c = false := by
        intro c hc
        rw [List.getElem?_eq_none (by rw [e1]; omega)] at hc; cases hc
      obtain rfl : x = s.size := by omega
      have htk : s.data.toList.take s.size = s.data.toList := List.take_of_length_le (by rw [e1]; exact Nat.le_refl _)
      have es : (s ++ (⟨#[49]⟩ : ByteArray)).size ≤ 100000 := by rw [ByteArray.size_append]; show _ + 1 ≤ _; omega
      have qs : (s ++ (⟨#[49]⟩ : ByteArray)).data.toList = s.data.toList ++ [49] := by rw [ByteArray.data_append, Array.toList_append]
      obtain ⟨_, _, pl3⟩ := hpl s.size rfl rfl hlet
      rw [htk] at pl3 hgl
      rw [hp] at pl3
      have pl3 := (pl3 rfl).2
      rcases hu : Fs.parse (kind lo hi l week) (s.data.toList ++ [49]) with ⟨b', is', y', g⟩
      rw [hu] at hgl pl3
      simp only at hgl pl3
      have hgg : g = 0 ∨ g = 2 ∨ g = 10 := by omega
      clear hfl hgl
      have G4 : Hid (∀ A c W, KindAt W (n % 6) lo hi A c l week → Tabs W → Calls Tryz.prog 15 #[.agg #[.int .i64 lo, .int .i64 hi, .slice A l.length c, .bool week], .string (s ++ (⟨#[49]⟩ : ByteArray))] W fun e w' => e = .returned (.tuple #[.int .u64 b', .bool is', .int .i64 y', .int .i64 g]) ∧ Below W.heap.size W w') :=
        Lib.hid fun A c W h hT => by have := kd_Parse h hT (s ++ (⟨#[49]⟩ : ByteArray)) es; rw [qs, hu] at this; exact this
      clear hu hp et e0 e9 q1 q9 hpl hlet htk es qs
      have hg10 := pl3
      rcases hgg with rfl | rfl | rfl
      · clear hg10
        have a8 := str_add s (⟨#[49]⟩ : ByteArray) (by show _ + 1 ≤ _; omega)
        clear hsix hT hk f1 f2 f3 f4 f5 f6 f7 f8 w0 w1 w2
        generalize Fs.full (kind lo hi l week) = fu at *
        generalize hhi : hi = hi' at *
        go_enter Tryz.func12, Tryz.ntmps12
        go_wp2_with (first
          | (go_at_call 32; (with_reducible refine (H6.out _ HT.out).mono ?_); rintro e x1 ⟨A, c, rfl, hb1, hk1⟩
             have B1 := Lib.hid hb1; have K1 := Lib.hid hk1; have T1 := Lib.hid (HT.out.grow hb1); clear hb1 hk1)
          | (go_at_call 15; (with_reducible refine (G1.out _ _ _ (K1.out.alloc _) (T1.out.alloc _)).mono ?_); rintro e x2 ⟨rfl, hb2⟩
             obtain ⟨hc2, hf2⟩ := bcell hb2; have s2 : x1.heap.size < x2.heap.size := by have := hb2.size; simp at this; omega
             have B2 := Lib.hid ((B1.out.alloc B1.out.size _).trans (hb2.mono (by have := B1.out.size; simp; omega))); have K2 := Lib.hid ((K1.out.alloc _).grow hb2); have T2 := Lib.hid ((T1.out.alloc _).grow hb2); clear hb2))
        have ca2 : x2.cell? ⟨x1.heap.size, 0, none⟩ = some (.int .i64 lo) := (hc2 _ 0 (by simp)).trans (by rw [World.cell?_alloc_at _ _ _ _ rfl]; rfl)
        have cb2 : x2.cell? ⟨x1.heap.size, 1, none⟩ = some (.int .i64 hi') := (hc2 _ 1 (by simp)).trans (by rw [World.cell?_alloc_at _ _ _ _ rfl]; rfl)
        have cc2 : x2.cell? ⟨x1.heap.size, 2, none⟩ = some (.slice A l.length c) := (hc2 _ 2 (by simp)).trans (by rw [World.cell?_alloc_at _ _ _ _ rfl]; rfl)
        have cd2 : x2.cell? ⟨x1.heap.size, 3, none⟩ = some (.bool week) := (hc2 _ 3 (by simp)).trans (by rw [World.cell?_alloc_at _ _ _ _ rfl]; rfl)
        clear hc2 hf2
        have hB := B2.out.drew; have hK := K2.out.grow (Below.refl x2.heap.size x2).drew; have hTT := T2.out.drew
        clear B2 K2 T2
        have B2 := Lib.hid hB; have K2 := Lib.hid hK; have T2 := Lib.hid hTT
        clear hB hK hTT
        go_region_held3 (fun w' => w'.cell? ⟨x1.heap.size, 0, none⟩ = some (.int .i64 lo) ∧ w'.cell? ⟨x1.heap.size, 1, none⟩ = some (.int .i64 hi') ∧ w'.cell? ⟨x1.heap.size, 2, none⟩ = some (.slice A l.length c) ∧ w'.cell? ⟨x1.heap.size, 3, none⟩ = some (.bool week)) (first | (exact ⟨ca3, cb3, cc3, cd3⟩) | (exact ⟨ca2, cb2, cc2, cd2⟩) | go_keep)
          (first
            | (go_at_call 15; (with_reducible refine (G1.out _ _ _ K2.out T2.out).mono ?_); rintro e x3 ⟨rfl, hb2⟩
               have B3 := Lib.hid (B2.out.trans (hb2.mono B2.out.size)); have K3 := Lib.hid (K2.out.grow hb2); have T3 := Lib.hid (T2.out.grow hb2)
               have s3 : x1.heap.size < x3.heap.size := by have h9 := hb2.size; have h8 : (World.drew x2).heap.size = x2.heap.size := rfl; omega
               have ca3 := (hb2.cell (p := ⟨x1.heap.size, 0, none⟩) s2).trans ca2; have cb3 := (hb2.cell (p := ⟨x1.heap.size, 1, none⟩) s2).trans cb2; have cc3 := (hb2.cell (p := ⟨x1.heap.size, 2, none⟩) s2).trans cc2; have cd3 := (hb2.cell (p := ⟨x1.heap.size, 3, none⟩) s2).trans cd2
               clear hb2))
        go_wp2_with (first
          | (go_at_call 14; (with_reducible refine (works_true _ T3.out).mono ?_); rintro e x4 ⟨rfl, hb2⟩
             have B4 := Lib.hid (B3.out.trans (hb2.mono B3.out.size)); clear hb2))
        have hB := B3.out.drew; have hK := K3.out.grow (Below.refl x3.heap.size x3).drew; have hTT := T3.out.drew
        clear B3 K3 T3
        have B3 := Lib.hid hB; have K3 := Lib.hid hK; have T3 := Lib.hid hTT
        clear hB hK hTT
        go_region_held3 (fun w' => w'.cell? ⟨x1.heap.size, 0, none⟩ = some (.int .i64 lo) ∧ w'.cell? ⟨x1.heap.size, 1, none⟩ = some (.int .i64 hi') ∧ w'.cell? ⟨x1.heap.size, 2, none⟩ = some (.slice A l.length c) ∧ w'.cell? ⟨x1.heap.size, 3, none⟩ = some (.bool week)) (first | (exact ⟨ca4, cb4, cc4, cd4⟩) | (exact ⟨ca3, cb3, cc3, cd3⟩) | go_keep)
          (first
            | (go_at_call 15; (with_reducible refine (G4.out _ _ _ K3.out T3.out).mono ?_); rintro e x4 ⟨rfl, hb2⟩
               have B4 := Lib.hid (B3.out.trans (hb2.mono B3.out.size)); have K4 := Lib.hid (K3.out.grow hb2); have T4 := Lib.hid (T3.out.grow hb2)
               have s4 : x1.heap.size < x4.heap.size := by have h9 := hb2.size; have h8 : (World.drew x3).heap.size = x3.heap.size := rfl; omega
               have ca4 := (hb2.cell (p := ⟨x1.heap.size, 0, none⟩) s3).trans ca3; have cb4 := (hb2.cell (p := ⟨x1.heap.size, 1, none⟩) s3).trans cb3; have cc4 := (hb2.cell (p := ⟨x1.heap.size, 2, none⟩) s3).trans cc3; have cd4 := (hb2.cell (p := ⟨x1.heap.size, 3, none⟩) s3).trans cd3
               clear hb2))
        go_wp2_with (first
          | (go_at_call 14; (with_reducible refine (works_true _ T4.out).mono ?_); rintro e x5 ⟨rfl, hb2⟩
             have B5 := Lib.hid (B4.out.trans (hb2.mono B4.out.size)); clear hb2))
        all_goals (go_ret; exact ⟨rfl, B5.out⟩)
      · clear hg10
        have a8 := str_add s (⟨#[49]⟩ : ByteArray) (by show _ + 1 ≤ _; omega)
        clear hsix hT hk f1 f2 f3 f4 f5 f6 f7 f8 w0 w1 w2
        generalize Fs.full (kind lo hi l week) = fu at *
        generalize hhi : hi = hi' at *
        go_enter Tryz.func12, Tryz.ntmps12
        go_wp2_with (first
          | (go_at_call 32; (with_reducible refine (H6.out _ HT.out).mono ?_); rintro e x1 ⟨A, c, rfl, hb1, hk1⟩
             have B1 := Lib.hid hb1; have K1 := Lib.hid hk1; have T1 := Lib.hid (HT.out.grow hb1); clear hb1 hk1)
          | (go_at_call 15; (with_reducible refine (G1.out _ _ _ (K1.out.alloc _) (T1.out.alloc _)).mono ?_); rintro e x2 ⟨rfl, hb2⟩
             obtain ⟨hc2, hf2⟩ := bcell hb2; have s2 : x1.heap.size < x2.heap.size := by have := hb2.size; simp at this; omega
             have B2 := Lib.hid ((B1.out.alloc B1.out.size _).trans (hb2.mono (by have := B1.out.size; simp; omega))); have K2 := Lib.hid ((K1.out.alloc _).grow hb2); have T2 := Lib.hid ((T1.out.alloc _).grow hb2); clear hb2))
        have ca2 : x2.cell? ⟨x1.heap.size, 0, none⟩ = some (.int .i64 lo) := (hc2 _ 0 (by simp)).trans (by rw [World.cell?_alloc_at _ _ _ _ rfl]; rfl)
        have cb2 : x2.cell? ⟨x1.heap.size, 1, none⟩ = some (.int .i64 hi') := (hc2 _ 1 (by simp)).trans (by rw [World.cell?_alloc_at _ _ _ _ rfl]; rfl)
        have cc2 : x2.cell? ⟨x1.heap.size, 2, none⟩ = some (.slice A l.length c) := (hc2 _ 2 (by simp)).trans (by rw [World.cell?_alloc_at _ _ _ _ rfl]; rfl)
        have cd2 : x2.cell? ⟨x1.heap.size, 3, none⟩ = some (.bool week) := (hc2 _ 3 (by simp)).trans (by rw [World.cell?_alloc_at _ _ _ _ rfl]; rfl)
        clear hc2 hf2
        have hB := B2.out.drew; have hK := K2.out.grow (Below.refl x2.heap.size x2).drew; have hTT := T2.out.drew
        clear B2 K2 T2
        have B2 := Lib.hid hB; have K2 := Lib.hid hK; have T2 := Lib.hid hTT
        clear hB hK hTT
        go_region_held3 (fun w' => w'.cell? ⟨x1.heap.size, 0, none⟩ = some (.int .i64 lo) ∧ w'.cell? ⟨x1.heap.size, 1, none⟩ = some (.int .i64 hi') ∧ w'.cell? ⟨x1.heap.size, 2, none⟩ = some (.slice A l.length c) ∧ w'.cell? ⟨x1.heap.size, 3, none⟩ = some (.bool week)) (first | (exact ⟨ca3, cb3, cc3, cd3⟩) | (exact ⟨ca2, cb2, cc2, cd2⟩) | go_keep)
          (first
            | (go_at_call 15; (with_reducible refine (G1.out _ _ _ K2.out T2.out).mono ?_); rintro e x3 ⟨rfl, hb2⟩
               have B3 := Lib.hid (B2.out.trans (hb2.mono B2.out.size)); have K3 := Lib.hid (K2.out.grow hb2); have T3 := Lib.hid (T2.out.grow hb2)
               have s3 : x1.heap.size < x3.heap.size := by have h9 := hb2.size; have h8 : (World.drew x2).heap.size = x2.heap.size := rfl; omega
               have ca3 := (hb2.cell (p := ⟨x1.heap.size, 0, none⟩) s2).trans ca2; have cb3 := (hb2.cell (p := ⟨x1.heap.size, 1, none⟩) s2).trans cb2; have cc3 := (hb2.cell (p := ⟨x1.heap.size, 2, none⟩) s2).trans cc2; have cd3 := (hb2.cell (p := ⟨x1.heap.size, 3, none⟩) s2).trans cd2
               clear hb2))
        go_wp2_with (first
          | (go_at_call 14; (with_reducible refine (works_true _ T3.out).mono ?_); rintro e x4 ⟨rfl, hb2⟩
             have B4 := Lib.hid (B3.out.trans (hb2.mono B3.out.size)); clear hb2))
        have hB := B3.out.drew; have hK := K3.out.grow (Below.refl x3.heap.size x3).drew; have hTT := T3.out.drew
        clear B3 K3 T3
        have B3 := Lib.hid hB; have K3 := Lib.hid hK; have T3 := Lib.hid hTT
        clear hB hK hTT
        go_region_held3 (fun w' => w'.cell? ⟨x1.heap.size, 0, none⟩ = some (.int .i64 lo) ∧ w'.cell? ⟨x1.heap.size, 1, none⟩ = some (.int .i64 hi') ∧ w'.cell? ⟨x1.heap.size, 2, none⟩ = some (.slice A l.length c) ∧ w'.cell? ⟨x1.heap.size, 3, none⟩ = some (.bool week)) (first | (exact ⟨ca4, cb4, cc4, cd4⟩) | (exact ⟨ca3, cb3, cc3, cd3⟩) | go_keep)
          (first
            | (go_at_call 15; (with_reducible refine (G4.out _ _ _ K3.out T3.out).mono ?_); rintro e x4 ⟨rfl, hb2⟩
               have B4 := Lib.hid (B3.out.trans (hb2.mono B3.out.size)); have K4 := Lib.hid (K3.out.grow hb2); have T4 := Lib.hid (T3.out.grow hb2)
               have s4 : x1.heap.size < x4.heap.size := by have h9 := hb2.size; have h8 : (World.drew x3).heap.size = x3.heap.size := rfl; omega
               have ca4 := (hb2.cell (p := ⟨x1.heap.size, 0, none⟩) s3).trans ca3; have cb4 := (hb2.cell (p := ⟨x1.heap.size, 1, none⟩) s3).trans cb3; have cc4 := (hb2.cell (p := ⟨x1.heap.size, 2, none⟩) s3).trans cc3; have cd4 := (hb2.cell (p := ⟨x1.heap.size, 3, none⟩) s3).trans cd3
               clear hb2))
        go_wp2_with (first
          | (go_at_call 14; (with_reducible refine (works_true _ T4.out).mono ?_); rintro e x5 ⟨rfl, hb2⟩
             have B5 := Lib.hid (B4.out.trans (hb2.mono B4.out.size)); clear hb2))
        all_goals (go_ret; exact ⟨rfl, B5.out⟩)
      · exact absurd rfl hg10

set_option maxRecDepth 100000 in
theorem contract (H : Type) (enc : TypeId × Value → H) (W : World) (base : Nat) (args : Array Value) (ds gs : List (DataW H)) (before : List MemPlace)
    (hval : ∀ (j : Nat) t v, Tryz.f12.params[j]? = some t → args[j]? = some v → Value.okWide Tryz.prog W .any base t v)
    (hW : DataW.Whole enc Tryz.prog Tryz.f12.params.toList Rows.fieldPlacesSpec.vars false W args.toList ds gs before) (hL : laidMetH Tryz.prog Rows.fieldPlacesRow.laid W) (hS : W.ShapedOpen Tryz.prog) :
    Calls Tryz.prog 12 args W fun e W' => ∃ v, e = .returned v ∧ Rows.fieldPlacesSpec.post enc Tryz.prog Tryz.f12 false true false false W args v W' := by
  have hT : Tabs W := FRow.tabs_of hL hS
  have hW' := hW
  obtain ⟨p, q, hA0, hV, rfl, hfz, hnd⟩ := hW
  have hA : DataW.TrodAll enc Tryz.prog W 0 (fun _ => true) true Tryz.f12.params.toList args.toList ds p := hA0
  rw [Tryz.params12] at hA hval
  obtain ⟨v0, vs0, d0, ds0, p0, q0, hargs, rfl, rfl, h0, r0⟩ := trodAll_cons hA
  obtain ⟨v1, vs1, d1, ds1, p1, q1, rfl, rfl, rfl, h1, r1⟩ := trodAll_cons r0
  obtain ⟨v2, vs2, d2, ds2, p2, q2, rfl, rfl, rfl, h2, r2⟩ := trodAll_cons r1
  obtain ⟨rfl, rfl, rfl⟩ := trodAll_nil r2
  obtain rfl : args = #[v0, v1, v2] := by cases args; simp_all
  obtain ⟨rfl, rfl⟩ := trodVars_none hV
  obtain ⟨a0, rfl, rfl, rfl, w0⟩ := open_int Tryz.underlying5 (hval 0 5 v0 rfl rfl) h0
  obtain ⟨a1, rfl, rfl, rfl, w1⟩ := Go.ChangeMaps.open_string Tryz.underlying9 (hval 1 9 v1 rfl rfl) h1
  obtain ⟨a2, rfl, rfl, rfl, w2⟩ := Go.ChangeMaps.open_string Tryz.underlying9 (hval 2 9 v2 rfl rfl) h2
  clear hA0
  simp only [List.append_nil] at hW'
  refine (walk a0 a1 a2 w0 w1 w2 W hT ).mono fun e W' ⟨he, hb⟩ => ?_
  subst he
  exact ⟨_, rfl, _, _, _, [], [], [], hW', trodAll_cons_mk (shut_bool Tryz.underlying4 _) trodAll_mk0, (trodAll_cons_mk (shut_int Tryz.underlying5 w0) (trodAll_cons_mk (Go.ChangeMaps.shut_string Tryz.underlying9 w1) (trodAll_cons_mk (Go.ChangeMaps.shut_string Tryz.underlying9 w2) trodAll_mk0))), rfl, hb.frame _, fun h => by cases h⟩

set_option maxRecDepth 100000 in
theorem lifted (os : Os) (started : os.Started) (H : Type) (enc : TypeId × Value → H) (F : Stop.Interp) :
    ReturnsInHanded {} Tryz.checked os 12 .any ((OpenSpec.ofChange Rows.fieldPlacesSpec).preRow enc Tryz.prog Tryz.f12 Rows.fieldPlacesRow.domain false Rows.fieldPlacesRow.laid) (((OpenSpec.ofChange Rows.fieldPlacesSpec).at F).post enc Tryz.prog Tryz.f12 false true false false) := by
  refine returnsInHanded_of_row (C := Tryz.checked) (s := OpenSpec.ofChange Rows.fieldPlacesSpec) FRow.own started (by kernel_rfl) Tryz.func12
    (ChangeSpec.witness_shaped (enc := enc) (C := Tryz.checked) (os := os) (X := fun w _ => laidMetH Tryz.prog FRow.laidL w) false (World.laidAll Tryz.prog os FRow.laidL) #[.int .u8 0, .string ByteArray.empty, .string ByteArray.empty] 8 (World.laidAll_os _ _ _)
      (FRow.wit_shaped os _) (by kernel_rfl) (by kernel_rfl) (by kernel_rfl) (FRow.wit_laid os _)) ?_
  intro W base args ds gs before hval hW _ _ _ hL hS _
  exact contract H enc W base args ds gs before hval hW hL hS

theorem said : Rows.FieldPlacesSaid :=
  OpenClaim.holds_of_cond 12 Tryz.f12 rfl rfl rfl rfl rfl rfl rfl ⟨rfl, rfl, rfl, rfl, rfl⟩ rfl rfl rfl rfl rfl (by kernel_rfl) Tryz.func12 (by kernel_rfl)
    (of_decide_eq_true (by kernel_rfl)) (by unfold Func.isWrapper; first | (rw [if_pos (by decide +kernel)]; kernel_rfl) | (rw [if_neg (by decide +kernel)]; exact ⟨rfl, rfl⟩))
    (fun os started H enc _ F => by rw [OpenClaim.pre_eq_preRow]; exact lifted os started H enc F)

theorem plain (f : FuncId) (fn : Func) (hf : Tryz.pinned.checked.prog.funcNamed "wakeman/wakemanlaw06.FieldPlaces" = some f) (hfn : Tryz.pinned.checked.prog.funcs[f]? = some fn) :
    true = Tryz.pinned.checked.prog.looks [] ∧ ∀ (j : Nat) t, fn.params[j]? = some t → Tryz.pinned.checked.prog.wantsStandIn t = false := by
  obtain rfl : f = 12 := Option.some.inj ((show Tryz.prog.funcNamed "wakeman/wakemanlaw06.FieldPlaces" = some 12 by kernel_rfl).symm.trans hf) |>.symm
  obtain rfl : fn = Tryz.f12 := (Option.some.inj (Tryz.func12.symm.trans hfn)).symm
  refine ⟨by kernel_rfl, fun j t ht => ?_⟩
  rw [Tryz.params12] at ht
  have hm : t ∈ [5, 9, 9] := by simpa using Array.mem_of_getElem? ht
  have hall : ([5, 9, 9].all fun u => !Tryz.prog.wantsStandIn u) = true := by kernel_rfl
  exact (show Tryz.prog.wantsStandIn t = false by simpa using List.all_eq_true.1 hall t hm)

theorem card : Rows.FieldPlacesCardSaid :=
  Claim7.holds_tied_plain_at .later [] _ _ _ _ said (fun _ h => by cases h) (by kernel_rfl) (fun _ h => by cases h) fieldPlaces_row_tie rfl ⟨rfl, rfl⟩ (by kernel_rfl) rfl plain (by kernel_rfl)
#print axioms card
end Go.Proofs.YtfhcnndleaoobaaGreatDoor.fieldPlaces
