/-
  The text of flaws, as the program has it.
-/
import Derived.Test.YtphcgfljfknbaaaGreatDoorWI
import Derived.Deep.RegionHeld3
set_option linter.unusedVariables false
set_option linter.unusedSimpArgs false
namespace Go.Proofs.YtphcgfljfknbaaaGreatDoor
open Go.RowKit
set_option maxRecDepth 100000 in
theorem textFun (k t : Int) (w : World) :
    Calls Tryz.prog 14 #[.agg #[.int .i64 k, .int .i64 t]] w fun e w' => e = .returned (.bool (decide (k < 1) || decide (k > 8) || decide (t < 0))) ∧ Below w.heap.size w w' := by
  by_cases h1 : k < 1
  · have H1 : Hid (decide (k < 1) = true) := Lib.hid (by simp [h1])
    go_enter Tryz.func14, Tryz.ntmps14
    go_wp2
    go_ret
    exact ⟨by first | rfl | (rw [H1.out]; rfl), (Below.refl _ _).alloc (Nat.le_refl _) _⟩
  · by_cases h2 : k > 8
    · have H1 : Hid (decide (k < 1) = false) := Lib.hid (by simp [h1])
      have H2 : Hid (decide (k > 8) = true) := Lib.hid (by simp [h2])
      go_enter Tryz.func14, Tryz.ntmps14
      go_wp2
      go_ret
      exact ⟨by first | rfl | (rw [H1.out, H2.out]; rfl), (Below.refl _ _).alloc (Nat.le_refl _) _⟩
    · by_cases h3 : t < 0
      · have H1 : Hid (decide (k < 1) = false) := Lib.hid (by simp [h1])
        have H2 : Hid (decide (k > 8) = false) := Lib.hid (by simp [h2])
        have H3 : Hid (decide (t < 0) = true) := Lib.hid (by simp [h3])
        go_enter Tryz.func14, Tryz.ntmps14
        go_wp2
        go_ret
        exact ⟨by first | rfl | (rw [H1.out, H2.out, H3.out]; rfl), (Below.refl _ _).alloc (Nat.le_refl _) _⟩
      · have H1 : Hid (decide (k < 1) = false) := Lib.hid (by simp [h1])
        have H2 : Hid (decide (k > 8) = false) := Lib.hid (by simp [h2])
        have H3 : Hid (decide (t < 0) = false) := Lib.hid (by simp [h3])
        go_enter Tryz.func14, Tryz.ntmps14
        go_wp2
        go_ret
        exact ⟨by first | rfl | (rw [H1.out, H2.out, H3.out]; rfl), (Below.refl _ _).alloc (Nat.le_refl _) _⟩
def IdxPost (bad : Bool) (e : Ending) : Prop := (bad = true → ∃ j : Nat, e = .returned (.int .i64 j)) ∧ (bad = false → e = .returned (.int .i64 (-1)))
set_option maxRecDepth 100000 in
set_option maxHeartbeats 1000000 in
theorem indexFunc (A : Option Addr) (n c : Nat) (K T : Nat → Int) (w : World) (hn : n ≤ 100000) (hf : FlawsAt w A n K T) :
    Calls Tryz.prog 27 #[.slice A n c, .func (.func 14) #[] #[]] w fun e w' =>
      IdxPost (Fl.anyBad K T n) e ∧ Below w.heap.size w w' := by
  have Hf := Lib.hid hf; clear hf
  go_enter Tryz.func27, Tryz.ntmps27
  go_wp2
  go_loopw [8] (fun i wr => I1 w n K T i wr) (fun i _ => n - natV i)
  case atStart => exact ⟨0, by omega, rfl, Below.refl _ _, fun t h => by omega⟩
  case round =>
    obtain ⟨j, hj, rfl, hb, hok⟩ := hrel
    have Hok := Lib.hid hok; clear hok
    have Hf1 := Lib.hid (Hf.out.below hb)
    have Hb := Lib.hid hb; clear hb
    by_cases hjn : j < n
    · obtain ⟨hrg, hA⟩ := Hf1.out
      rcases hA with h0 | ⟨b, off, rfl, hbl, hc⟩
      · omega
      obtain ⟨c0, c1⟩ := hc j hjn
      clear hc hrg
      have hT : ∀ W, Calls Tryz.prog 14 #[.agg #[.int .i64 (K j), .int .i64 (T j)]] W fun e w' => e = .returned (.bool (Fl.bad K T j)) ∧ Below W.heap.size W w' := fun W => textFun (K j) (T j) W
      cases hB : Fl.bad K T j with
      | true =>
        rw [hB] at hT
        have HB := Lib.hid hB; have HT := Lib.hid hT; clear hB hT
        go_wp2_with (go_at_call 14; ((with_reducible refine (HT.out _).mono ?_)); rintro e w3 ⟨rfl, hb3⟩)
        go_ret
        exact ⟨⟨fun _ => ⟨j, rfl⟩, fun h => by rw [Fl.anyBad_of K T n j hjn HB.out] at h; cases h⟩, Hb.out.trans (hb3.mono Hb.out.size)⟩
      | false =>
        rw [hB] at hT
        have HB := Lib.hid hB; have HT := Lib.hid hT; clear hB hT
        go_wp2_with (go_at_call 14; ((with_reducible refine (HT.out _).mono ?_)); rintro e w3 ⟨rfl, hb3⟩)
        go_roundw
        case rel =>
          refine ⟨j + 1, by omega, by go_num, Hb.out.trans (hb3.mono Hb.out.size), fun t h => ?_⟩
          rcases Nat.lt_or_ge t j with h' | h'
          · exact Hok.out t h'
          · obtain rfl : t = j := by omega
            exact HB.out
        case measure => simp [natV]; omega
    · obtain rfl : j = n := by omega
      go_wp2
      go_ret
      exact ⟨⟨fun h => (by rw [Fl.noBad_of K T j Hok.out] at h; cases h), fun _ => rfl⟩, Hb.out⟩
theorem containsFunc (A : Option Addr) (n c : Nat) (K T : Nat → Int) (w : World) (hn : n ≤ 100000) (hf : FlawsAt w A n K T) :
    Calls Tryz.prog 13 #[.slice A n c, .func (.func 14) #[] #[]] w fun e w' =>
      e = .returned (.bool (Fl.anyBad K T n)) ∧ Below w.heap.size w w' := by
  have hI := indexFunc A n c K T w hn hf
  cases hB : Fl.anyBad K T n with
  | true =>
    rw [hB] at hI
    have HI := Lib.hid hI; clear hI
    go_enter Tryz.func13, Tryz.ntmps13
    go_wp2_with (go_at_call 27; ((with_reducible refine HI.out.mono ?_)); rintro e w3 ⟨he, hb3⟩; obtain ⟨j, rfl⟩ := he.1 rfl)
    go_ret
    exact ⟨by first | rfl | simp, hb3⟩
  | false =>
    rw [hB] at hI
    have HI := Lib.hid hI; clear hI
    go_enter Tryz.func13, Tryz.ntmps13
    go_wp2_with (go_at_call 27; ((with_reducible refine HI.out.mono ?_)); rintro e w3 ⟨he, hb3⟩; obtain rfl := he.2 rfl)
    go_ret
    exact ⟨rfl, hb3⟩
theorem own_below {w w' : World} {B e size n : Nat} {v : Value} {xs : List Value} (h : w.ownsRow B e size v n xs) (hb : Below w.heap.size w w') : w'.ownsRow B e size v n xs := by
  refine ⟨h.1, ?_⟩
  rcases h.2 with hn | ⟨g, cap, cur, rfl, hg, hgg, rest⟩
  · exact .inl hn
  · exact .inr ⟨g, cap, cur, rfl, hg, by rw [hb.block g (Array.getElem?_eq_some_iff.1 hgg).1]; exact hgg, rest⟩
theorem bat_below {B b : Nat} {p : Value} {bs : List Value} {W W' : World} (h : Lib.BuilderAt 46 5 B b p bs W) (hb : Below W.heap.size W W') : Lib.BuilderAt 46 5 B b p bs W' := by
  have hlt := h.lt
  obtain ⟨hB, v, hv, hown, hne⟩ := h
  exact ⟨hB, v, (hb.block b hlt).trans hv, own_below hown hb, hne⟩
theorem isB_below {B b : Nat} {l : List UInt8} {W W' : World} (h : IsB B b l W) (hb : Below W.heap.size W W') : IsB B b l W' :=
  Or.elim h (fun x => .inl (bat_below x hb)) (fun x => .inr (bat_below x hb))
theorem named_pow : Tryz.prog.globalNamed "internal/strconv.uint64pow10" = some 3 := by kernel_rfl
theorem pow_below {w w' : World} (h : PowTab w) (hb : Below w.heap.size w w') : PowTab w' := by
  unfold PowTab Lib.TabIs World.var? at *
  rw [named_pow] at *
  simp only [Option.bind_some] at *
  cases hg : w.heap[3]? with
  | none => rw [hg] at h; cases h
  | some o =>
    rw [hb.block _ (Array.getElem?_eq_some_iff.1 hg).1]
    exact h
def WordsV (w : World) : Prop := ∀ q : Nat, q < 8 → w.cell? ⟨1, q, none⟩ = some (.string ⟨(Fl.word ((q : Int) + 1)).toArray⟩) ∧ 1 < w.heap.size
theorem words_below {w w' : World} (h : WordsV w) (hb : Below w.heap.size w w') : WordsV w' := fun q hq => by
  obtain ⟨h1, h2⟩ := h q hq
  exact ⟨(hb.cell (p := ⟨_, q, none⟩) h2).trans h1, Nat.lt_of_lt_of_le h2 hb.size⟩
theorem cat_size (V D : List UInt8) : (({ data := V.toArray } : ByteArray) ++ { data := #[32] } ++ { data := D.toArray } ++ { data := #[10] }).size = V.length + 1 + D.length + 1 := by
  simp [ByteArray.size_append, ByteArray.size]; omega
def A1 (w : World) (n B : Nat) (K T : Nat → Int) (i : Value) (wr : World) : Prop :=
  ∃ (j : Nat) (l : List UInt8), j ≤ n ∧ i = .int .i64 j ∧ IsB B B l wr ∧ B ≤ wr.heap.size ∧ Below w.heap.size w wr ∧ l = Fl.lines K T j ∧ l.length ≤ 65536
set_option maxRecDepth 100000 in
set_option maxHeartbeats 1000000 in
theorem audit_Text (A : Option Addr) (n c : Nat) (K T : Nat → Int) (w : World) (hn : n ≤ 100000) (hf : FlawsAt w A n K T) (hp : PowTab w) (hw : WordsV w) :
    Calls Tryz.prog 6 #[.slice A n c] w fun e w' => e = .returned (.tuple #[.string ⟨(Fl.ans K T n).1.toArray⟩, .int .i64 (Fl.ans K T n).2]) ∧ Below w.heap.size w w' := by
  have hC := containsFunc A n c K T w hn hf
  have Hf := Lib.hid hf; clear hf
  have Hp := Lib.hid hp; clear hp
  have Hw := Lib.hid hw; clear hw
  cases hB : Fl.anyBad K T n with
  | true =>
    rw [hB] at hC
    have HC := Lib.hid hC; have HB := Lib.hid hB; clear hC hB
    go_enter Tryz.func6, Tryz.ntmps6
    go_wp2_with (go_at_call 13; ((with_reducible refine HC.out.mono ?_)); rintro e w1 ⟨rfl, hb1⟩)
    go_ret2
    exact ⟨by unfold Fl.ans; rw [if_pos HB.out]; rfl, hb1⟩
  | false =>
    rw [hB] at hC
    have HC := Lib.hid hC; clear hC
    have hok : ∀ t, t < n → Fl.bad K T t = false := fun t h => Fl.bad_no K T n t h hB
    have Hok := Lib.hid hok; clear hok hB
    go_enter Tryz.func6, Tryz.ntmps6
    go_wp2_with (go_at_call 13; ((with_reducible refine HC.out.mono ?_)); rintro e w1 ⟨rfl, hb1⟩)
    go_loopw [11] (fun i wr => A1 w n w1.heap.size K T i wr) (fun i _ => n - natV i)
    case atStart => exact ⟨0, [], by omega, rfl, Lib.fresh_isBuilder _ _ _, by simp, hb1.alloc hb1.size _, rfl, by simp⟩
    case round =>
      obtain ⟨k, l, hk, rfl, hI, hB, hb, hl, hl6⟩ := hrel
      have HI := Lib.hid hI; clear hI
      have Hl := Lib.hid hl; clear hl
      have Hf1 := Lib.hid (Hf.out.below hb)
      have Hp1 := Lib.hid (pow_below Hp.out hb)
      have Hw1 := Lib.hid (words_below Hw.out hb)
      have Hb := Lib.hid hb; clear hb
      by_cases hkn : k < n
      · obtain ⟨hrg, hA⟩ := Hf1.out
        rcases hA with h0 | ⟨b, off, rfl, hbl, hc⟩
        · omega
        obtain ⟨c0, c1⟩ := hc k hkn
        have hr := hrg k hkn
        clear hc hrg Hf1
        have hbd : ¬ K k < 1 ∧ ¬ K k > 8 ∧ ¬ T k < 0 := by simpa [Fl.bad, and_assoc] using Hok.out k hkn
        obtain ⟨t, ht⟩ : ∃ t : Nat, T k = t := ⟨(T k).toNat, by omega⟩
        have htt : t ≤ 9223372036854775807 := by omega
        have hdl := dec_len10 19 t (by omega)
        have hlt : w1.heap.size < wr.heap.size := by rcases HI.out with h | h <;> exact h.lt
        have hg1 : 1 < w1.heap.size := Nat.lt_of_lt_of_le (Hw.out 0 (by decide)).2 hb1.size
        have hD : ∀ W, PowTab W → Calls Tryz.prog 5 #[.int .i64 t] W fun e w' => e = .returned (.string ⟨(Lib.decDigits t).toArray⟩) ∧ Below W.heap.size W w' := fun W h => by
          have := digits t (by omega) (by omega) W h
          rwa [show Lib.itoa (t : Int) = Lib.decDigits t from by unfold Lib.itoa; rw [if_neg (by omega)]; rfl] at this
        have HD := Lib.hid hD; clear hD
        obtain ⟨D, hDd⟩ : ∃ D, Lib.decDigits t = D := ⟨_, rfl⟩
        rw [hDd] at hdl HD
        obtain ⟨q, hq⟩ : ∃ q : Nat, K k = (q : Int) + 1 := ⟨(K k - 1).toNat, by omega⟩
        have hq8 : q < 8 := by omega
        have hvl := Fl.word_len (K k)
        obtain ⟨fw', -⟩ := Hw1.out q hq8
        rw [← hq] at fw'
        obtain ⟨V, hV⟩ : ∃ V, Fl.word (K k) = V := ⟨_, rfl⟩
        rw [hV] at hvl fw'
        have HV := Lib.hid hV; have HDd := Lib.hid hDd; have Hq := Lib.hid hq; have Ht := Lib.hid ht
        rw [hq] at c0
        rw [ht] at c1
        clear hV hDd hbd hr htt hq ht
        go_upto_region 7 with fail
        have hx := (Below.refl wr.heap.size wr).alloc (Nat.le_refl _) (Obj.cells #[.int .i64 ((q : Int) + 1), .int .i64 (t : Int)] 26)
        have f0 : (wr.alloc (Obj.cells #[.int .i64 ((q : Int) + 1), .int .i64 (t : Int)] 26)).cell? ⟨wr.heap.size, 0, none⟩ = some (.int .i64 ((q : Int) + 1)) := by go_simp
        have f1 : (wr.alloc (Obj.cells #[.int .i64 ((q : Int) + 1), .int .i64 (t : Int)] 26)).cell? ⟨wr.heap.size, 1, none⟩ = some (.int .i64 (t : Int)) := by go_simp
        have fw : (wr.alloc (Obj.cells #[.int .i64 ((q : Int) + 1), .int .i64 (t : Int)] 26)).cell? ⟨1, q, none⟩ = some (.string ⟨V.toArray⟩) := (hx.cell (p := ⟨_, q, none⟩) (Hw1.out q hq8).2).trans fw'
        have fb : (wr.alloc (Obj.cells #[.int .i64 ((q : Int) + 1), .int .i64 (t : Int)] 26)).heap[wr.heap.size]? = some (Obj.cells #[.int .i64 ((q : Int) + 1), .int .i64 (t : Int)] 26) := heap_alloc_new ..
        have hs : (wr.alloc (Obj.cells #[.int .i64 ((q : Int) + 1), .int .i64 (t : Int)] 26)).heap.size = wr.heap.size + 1 := by simp
        have hI0 := isB_below HI.out hx
        have hP0 := pow_below Hp1.out hx
        clear HI Hp1 c0 c1 fw'
        generalize hx0 : wr.alloc (Obj.cells #[.int .i64 ((q : Int) + 1), .int .i64 (t : Int)] 26) = x0
        rw [hx0] at hx f0 f1 fw fb hs hI0 hP0
        clear hx0
        have HI := Lib.hid (show IsB w1.heap.size w1.heap.size l x0.drew from isB_below hI0 (Below.refl x0.heap.size x0).drew)
        have HP := Lib.hid (show PowTab x0.drew from pow_below hP0 (Below.refl x0.heap.size x0).drew)
        have FB := Lib.hid (show x0.drew.heap[wr.heap.size]? = _ from fb)
        have hs0 : x0.drew.heap.size = wr.heap.size + 1 := hs
        have HX := Lib.hid hx.drew
        have e0 : x0.drew.cell? ⟨wr.heap.size, 0, none⟩ = some (.int .i64 ((q : Int) + 1)) := f0
        have e1 : x0.drew.cell? ⟨wr.heap.size, 1, none⟩ = some (.int .i64 (t : Int)) := f1
        have ew : x0.drew.cell? ⟨1, q, none⟩ = some (.string ⟨V.toArray⟩) := fw
        have hg0 : 1 < wr.heap.size := (Hw1.out q hq8).2
        clear hI0 hP0 fb hs hx
        have i0 : (0 : Int) ≤ (q : Int) := by omega
        have i8 : (q : Int) < 8 := by omega
        have iw : IntKind.i64.wrap (q : Int) = (q : Int) := by rcases (show q = 0 ∨ q = 1 ∨ q = 2 ∨ q = 3 ∨ q = 4 ∨ q = 5 ∨ q = 6 ∨ q = 7 by omega) with h | h | h | h | h | h | h | h <;> subst h <;> rfl
        have g1 : ¬ 9223372036854775807 < V.length + 1 := by omega
        have g2 : ¬ 9223372036854775807 < V.length + 1 + D.length := by omega
        have g3 : ¬ 9223372036854775807 < V.length + 1 + D.length + 1 := by omega
        go_region_held3 (fun w' => w'.cell? ⟨wr.heap.size, 0, none⟩ = some (.int .i64 ((q : Int) + 1)) ∧ w'.cell? ⟨wr.heap.size, 1, none⟩ = some (.int .i64 (t : Int)) ∧ w'.cell? ⟨1, q, none⟩ = some (.string ⟨V.toArray⟩)) (first | (exact ⟨m0, m1, mw⟩) | (exact ⟨k0, k1, kw⟩) | (exact ⟨e0, e1, ew⟩) | (exact ⟨f0, f1, fw⟩) | go_keep)
          (first
            | (go_at_call 5; (with_reducible refine (HD.out _ HP.out).mono ?_); rintro e x1 ⟨rfl, hb2⟩
               have HI1 := Lib.hid (isB_below HI.out hb2)
               have HX1 := Lib.hid (HX.out.trans (hb2.mono HX.out.size))
               have FB1 := Lib.hid ((hb2.block _ (by omega)).trans FB.out)
               have hs1 : wr.heap.size + 1 ≤ x1.heap.size := by have := hb2.size; omega
               have k0 := (hb2.cell (p := ⟨wr.heap.size, 0, none⟩) (by show wr.heap.size < _; omega)).trans e0
               have k1 := (hb2.cell (p := ⟨wr.heap.size, 1, none⟩) (by show wr.heap.size < _; omega)).trans e1
               have kw := (hb2.cell (p := ⟨1, q, none⟩) (by show 1 < _; omega)).trans ew
               clear hb2)
            | (go_at_call 15; (with_reducible refine (write_string _ _ _ _ _ HI1.out (by rw [cat_size]; omega) (by omega)).mono ?_); rintro e x2 ⟨rfl, hI2, hb2, hk2⟩
               have HI2 := Lib.hid hI2
               have HX2 := Lib.hid ((Hb.out.trans (HX1.out.mono Hb.out.size)).trans (hb2.mono hb1.size))
               have FB2 := hk2 _ _ FB1.out (by intro h; have := Option.some.inj h; omega) (by intro c fz h; cases h)
               have m0 : x2.cell? ⟨wr.heap.size, 0, none⟩ = _ := Lib.cell_of_heap FB2 _
               have m1 : x2.cell? ⟨wr.heap.size, 1, none⟩ = _ := Lib.cell_of_heap FB2 _
               have mw := (hb2.cell (p := ⟨1, q, none⟩) hg1).trans kw
               clear hb2))
        have hS : ({ data := V.toArray } ++ { data := #[32] } ++ { data := D.toArray } ++ { data := #[10] } : ByteArray).data.toList = Fl.line K T k := by
          simp [Fl.line, HV.out, HDd.out, Ht.out]
        obtain ⟨L2, hL2⟩ : ∃ L2, Fl.lines K T (k + 1) = L2 := ⟨_, rfl⟩
        have HI3 : Hid (IsB w1.heap.size w1.heap.size L2 x2) := Lib.hid (by
          rw [← hL2, Fl.lines, ← Hl.out, ← hS]; exact hI2)
        have HL2 := Lib.hid hL2
        have HB : Hid (w1.heap.size ≤ x2.heap.size) := Lib.hid (by rcases HI3.out with h | h <;> exact Nat.le_of_lt h.lt)
        clear hL2 hI2 hS g1 g2 g3 HI2 FB2 hk2 m0 m1 mw k0 k1 kw e0 e1 ew f0 f1 fw
        by_cases hbig : 65536 < L2.length
        · go_wp2_with (go_at_call 16; (with_reducible refine (build_len _ _ _ _ HI3.out).mono ?_); rintro e x3 ⟨rfl, rfl⟩)
          go_ret2
          exact ⟨by rw [ans_long (j := k + 1) (by omega) Hok.out (by rw [HL2.out]; exact hbig)]; rfl, HX2.out⟩
        · go_wp2_with (go_at_call 16; (with_reducible refine (build_len _ _ _ _ HI3.out).mono ?_); rintro e x3 ⟨rfl, rfl⟩)
          go_roundw
          case rel => exact ⟨k + 1, L2, by omega, by go_num, HI3.out, HB.out, HX2.out, HL2.out.symm, by omega⟩
          case measure => simp [natV]; omega
      · obtain rfl : k = n := by omega
        go_wp2_with (go_at_call 17; (with_reducible refine (Tryz.Builder_String_any _ _ _ _ HI.out hB).mono ?_); rintro e x2 ⟨rfl, hb2⟩)
        go_ret2
        exact ⟨by rw [ans_good Hok.out (by rw [← Hl.out]; exact hl6), Hl.out]; rfl, Hb.out.trans (hb2.mono hb1.size)⟩
end Go.Proofs.YtphcgfljfknbaaaGreatDoor
