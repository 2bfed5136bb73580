import Derived.Test.YtlpabbcgichaoaaPFnExactFindx0
import Derived.Test.YtlpabbcgichaoaaWWords
namespace Go.Proofs.Ytlpabbcgichaoaa.PFnExactFind
open Go.RowKit Go.Proofs.YtlpabbcgichaoaaW.PrintWords Go.Proofs.YtlpabbcgichaoaaW.PrintLast Go.Proofs.YtlpabbcgichaoaaW.PrintMore
attribute [local go_sem] max2_int min2_int max_two min_two max_three min_three max_four min_four
set_option maxHeartbeats 8000000
set_option maxRecDepth 100000
set_option linter.unusedVariables false
set_option linter.unusedSimpArgs false
theorem ran0 {p : Prop} (h : p := by exact ⟨_, (false), fs, H', ⟨by first | omega | exact Nat.le_refl _⟩, ⟨tK⟩, ⟨tG⟩⟩) : p := h
theorem ran1 {p : Prop} (h : p := by exact ⟨_, ((a0_1 != 0)), fs, H', ⟨by first | omega | exact Nat.le_refl _⟩, ⟨tK⟩, ⟨tG⟩⟩) : p := h
theorem ran2 {p : Prop} (h : p := by exact ⟨_, (true), fs, H', ⟨by first | omega | exact Nat.le_refl _⟩, ⟨tK⟩, ⟨tG⟩⟩) : p := h
theorem ran3 {p : Prop} (h : p := by exact ⟨_, (a1), fs, H', ⟨by have := HJ2.out; have := HJ44.out; first | omega | exact Nat.le_refl _⟩, ⟨tK⟩, ⟨tG⟩⟩) : p := h
theorem ran4 {p : Prop} (h : p := by exact ⟨_, (true), fs, H', ⟨by have := HJ2.out; have := HJ44.out; first | omega | exact Nat.le_refl _⟩, ⟨tK⟩, ⟨tG⟩⟩) : p := h

mutual
def spec_l05Right.j0 : Nat → Int → Bool → Int → Int → Int → ByteArray → List (S31) → Option (Int)
 | 0, _, _, _, _, _, _, _ => none
 | k + 1, x1, x44, x105000, x105001, x105002, x105003, x105004 => if x44 = true then (some (-1)) else (if x105000 = 1 then (if x105001 < 0 then (some (-1)) else (if x105001 > 255 then (some (-1)) else (if (x105004.length : Int) = 0 then (spec_l05Right.j4 k x1 x105000 x105001 x105002 x105003 x105004) else (some (-1))))) else (if x105000 = 2 then (spec_l05Right.j1 k x1 x105000 (x105000 == 2) x105000 x105001 x105002 x105003 x105004) else (if x105000 = 4 then (spec_l05Right.j1 k x1 x105000 (x105000 == 4) x105000 x105001 x105002 x105003 x105004) else (spec_l05Right.j1 k x1 x105000 (x105000 == 5) x105000 x105001 x105002 x105003 x105004))))
def spec_l05Right.j4 : Nat → Int → Int → Int → Int → ByteArray → List (S31) → Option (Int)
 | 0, _, _, _, _, _, _ => none
 | k + 1, x1, x105000, x105001, x105002, x105003, x105004 => spec_l05Right.l1 k x1 0 x105000 x105001 x105002 x105003 x105004
def spec_l05Right.l1 : Nat → Int → Int → Int → Int → Int → ByteArray → List (S31) → Option (Int)
 | 0, _, _, _, _, _, _, _ => none
 | k + 1, x1, x6, x105000, x105001, x105002, x105003, x105004 => if x6 < (x105004.length : Int) then (if x1 > 0 then (if 0 ≤ x6 then ((spec_l05Right.f k ((rd_T31 x105004 x6).f0) ((rd_T31 x105004 x6).f1) ((rd_T31 x105004 x6).f2) ((rd_T31 x105004 x6).f3) ((rd_T31 x105004 x6).f4) x1).bind fun t106 => (spec_l05Right.l1 k t106 (wrap64 (x6 + 1)) x105000 x105001 x105002 x105003 x105004)) else (none)) else (some x1)) else (some x1)
def spec_l05Right.j1 : Nat → Int → Int → Bool → Int → Int → Int → ByteArray → List (S31) → Option (Int)
 | 0, _, _, _, _, _, _, _, _ => none
 | k + 1, x1, x46, x63, x105000, x105001, x105002, x105003, x105004 => if x63 = true then (if (x105004.length : Int) = 0 then (spec_l05Right.j4 k x1 x105000 x105001 x105002 x105003 x105004) else (some (-1))) else (if x46 = 3 then (if (x105004.length : Int) = 0 then (if (x105003.size : Int) = 0 then (spec_l05Right.j2 k x1 true x105000 x105001 x105002 x105003 x105004) else (spec_l05Right.j2 k x1 (decide ((x105003.size : Int) > 256)) x105000 x105001 x105002 x105003 x105004)) else (spec_l05Right.j2 k x1 true x105000 x105001 x105002 x105003 x105004)) else (if x46 = 6 then (if x105001 = x1 then (if x1 > 9 then (some (-1)) else (if (x105004.length : Int) = 1 then (spec_l05Right.j4 k (wrap64 (x1 + 1)) x105000 x105001 x105002 x105003 x105004) else (some (-1)))) else (some (-1))) else (if x46 = 7 then (spec_l05Right.j4 k x1 x105000 x105001 x105002 x105003 x105004) else (if x46 = 8 then (if (x105004.length : Int) < 2 then (some (-1)) else (spec_l05Right.j4 k x1 x105000 x105001 x105002 x105003 x105004)) else (if x46 = 9 then (if (x105004.length : Int) = 1 then (if x105001 < 0 then (some (-1)) else (if x105001 > 20 then (some (-1)) else (if x105002 < (-1) then (some (-1)) else (if x105002 > 20 then (some (-1)) else (if x105002 ≥ 0 then (if x105002 < x105001 then (some (-1)) else (spec_l05Right.j4 k x1 x105000 x105001 x105002 x105003 x105004)) else (spec_l05Right.j4 k x1 x105000 x105001 x105002 x105003 x105004)))))) else (some (-1))) else (some (-1)))))))
def spec_l05Right.j2 : Nat → Int → Bool → Int → Int → Int → ByteArray → List (S31) → Option (Int)
 | 0, _, _, _, _, _, _, _ => none
 | k + 1, x1, x88, x105000, x105001, x105002, x105003, x105004 => if x88 = true then (some (-1)) else (spec_l05Right.l0 k x1 1 x105000 x105001 x105002 x105003 x105004)
def spec_l05Right.l0 : Nat → Int → Int → Int → Int → Int → ByteArray → List (S31) → Option (Int)
 | 0, _, _, _, _, _, _, _ => none
 | k + 1, x1, x5, x105000, x105001, x105002, x105003, x105004 => if x5 < (x105003.size : Int) then (if 0 ≤ (wrap64 (x5 - 1)) then (if (wrap64 (x5 - 1)) < (x105003.size : Int) then (if 0 ≤ x5 then (if (bt x105003 (wrap64 (x5 - 1))) ≥ (bt x105003 x5) then (some (-1)) else (spec_l05Right.l0 k x1 (wrap64 (x5 + 1)) x105000 x105001 x105002 x105003 x105004)) else (none)) else (none)) else (none)) else (spec_l05Right.j4 k x1 x105000 x105001 x105002 x105003 x105004)
def spec_l05Right.f : Nat → Int → Int → Int → ByteArray → List (S31) → Int → Option (Int)
 | 0, _, _, _, _, _, _ => none
 | k + 1, a0_0, a0_1, a0_2, a0_3, l0_4, a1 => if a0_0 = 3 then (if a0_0 = 9 then (if a0_0 = 1 then (spec_l05Right.j0 k a1 false a0_0 a0_1 a0_2 a0_3 l0_4) else (if a0_0 = 6 then (spec_l05Right.j0 k a1 false a0_0 a0_1 a0_2 a0_3 l0_4) else (spec_l05Right.j0 k a1 false a0_0 a0_1 a0_2 a0_3 l0_4))) else (if a0_2 = 0 then (if a0_0 = 1 then (spec_l05Right.j0 k a1 false a0_0 a0_1 a0_2 a0_3 l0_4) else (if a0_0 = 6 then (spec_l05Right.j0 k a1 false a0_0 a0_1 a0_2 a0_3 l0_4) else (spec_l05Right.j0 k a1 (a0_1 != 0) a0_0 a0_1 a0_2 a0_3 l0_4))) else (spec_l05Right.j0 k a1 true a0_0 a0_1 a0_2 a0_3 l0_4))) else (if a0_3.toList = ([] : List UInt8) then (if a0_0 = 9 then (if a0_0 = 1 then (spec_l05Right.j0 k a1 false a0_0 a0_1 a0_2 a0_3 l0_4) else (if a0_0 = 6 then (spec_l05Right.j0 k a1 false a0_0 a0_1 a0_2 a0_3 l0_4) else (spec_l05Right.j0 k a1 false a0_0 a0_1 a0_2 a0_3 l0_4))) else (if a0_2 = 0 then (if a0_0 = 1 then (spec_l05Right.j0 k a1 false a0_0 a0_1 a0_2 a0_3 l0_4) else (if a0_0 = 6 then (spec_l05Right.j0 k a1 false a0_0 a0_1 a0_2 a0_3 l0_4) else (spec_l05Right.j0 k a1 (a0_1 != 0) a0_0 a0_1 a0_2 a0_3 l0_4))) else (spec_l05Right.j0 k a1 true a0_0 a0_1 a0_2 a0_3 l0_4))) else (spec_l05Right.j0 k a1 true a0_0 a0_1 a0_2 a0_3 l0_4))
end
theorem spec_l05Right.calls (k : Nat) : ∀ (a0_0 : Int) (a0_1 : Int) (a0_2 : Int) (a0_3 : ByteArray) (A0_4 : Option Addr) (c0_4 : Nat) (l0_4 : List (S31)) (a1 : Int) (r : Int) (w : World) (hr0_4 : Kd.C k31 w A0_4 l0_4.length l0_4) (hc0_4 : l0_4.length ≤ c0_4) (h : spec_l05Right.f k a0_0 a0_1 a0_2 a0_3 l0_4 a1 = some r),
  Calls Try.prog 56 #[.agg #[.int .i64 a0_0, .int .i64 a0_1, .int .i64 a0_2, .string a0_3, .slice A0_4 l0_4.length c0_4], .int .i64 a1] w fun e w' => e = .returned (.int .i64 r) ∧ Below w.heap.size w w' := by
 induction k using Nat.strongRecOn with
 | _ k ih =>
 intro a0_0 a0_1 a0_2 a0_3 A0_4 c0_4 l0_4 a1 r w hr0_4 hc0_4 h
 cases k with
 | zero => exact absurd h (by simp [spec_l05Right.f])
 | succ k =>
 simp only [spec_l05Right.f] at h
 have hu31 := Try.underlying31
 have HR0_4 := am hr0_4
 have HC0_4 := am hc0_4
 clear hr0_4 hc0_4
 have HB := am (Below.refl w.heap.size w)
 have H : (if a0_0 = 3 then (if a0_0 = 9 then (if a0_0 = 1 then (spec_l05Right.j0 k a1 false a0_0 a0_1 a0_2 a0_3 l0_4) else (if a0_0 = 6 then (spec_l05Right.j0 k a1 false a0_0 a0_1 a0_2 a0_3 l0_4) else (spec_l05Right.j0 k a1 false a0_0 a0_1 a0_2 a0_3 l0_4))) else (if a0_2 = 0 then (if a0_0 = 1 then (spec_l05Right.j0 k a1 false a0_0 a0_1 a0_2 a0_3 l0_4) else (if a0_0 = 6 then (spec_l05Right.j0 k a1 false a0_0 a0_1 a0_2 a0_3 l0_4) else (spec_l05Right.j0 k a1 (a0_1 != 0) a0_0 a0_1 a0_2 a0_3 l0_4))) else (spec_l05Right.j0 k a1 true a0_0 a0_1 a0_2 a0_3 l0_4))) else (if a0_3.toList = ([] : List UInt8) then (if a0_0 = 9 then (if a0_0 = 1 then (spec_l05Right.j0 k a1 false a0_0 a0_1 a0_2 a0_3 l0_4) else (if a0_0 = 6 then (spec_l05Right.j0 k a1 false a0_0 a0_1 a0_2 a0_3 l0_4) else (spec_l05Right.j0 k a1 false a0_0 a0_1 a0_2 a0_3 l0_4))) else (if a0_2 = 0 then (if a0_0 = 1 then (spec_l05Right.j0 k a1 false a0_0 a0_1 a0_2 a0_3 l0_4) else (if a0_0 = 6 then (spec_l05Right.j0 k a1 false a0_0 a0_1 a0_2 a0_3 l0_4) else (spec_l05Right.j0 k a1 (a0_1 != 0) a0_0 a0_1 a0_2 a0_3 l0_4))) else (spec_l05Right.j0 k a1 true a0_0 a0_1 a0_2 a0_3 l0_4))) else (spec_l05Right.j0 k a1 true a0_0 a0_1 a0_2 a0_3 l0_4))) = some r := h
 clear h
 have HC3 := am H
 clear H
 go_enter Try.func56, Try.ntmps56
 go_upto_region 1 with (first | ((with_reducible refine gate_dst (N := 2) rfl ?_); (try (refine gate_guard (by rfl) ?_; dsimp only)); refine box_event ?hg (N := 2) ?hd (cs := #[.int .i64 a0_0, .int .i64 a0_1, .int .i64 a0_2, .string a0_3, .slice A0_4 l0_4.length c0_4]) (t := 31) ?hr ?_; (case hd => rfl); (case hg => rfl); (case hr => first | (go_simp; done) | (go_simp; rfl)); intro gb104 hg w4 hbox hb; have BK104 := am hbox; have GW104 := gw (w := w) hg tB; have GE104 := GW104; replace HB := am (below_step tB hb); clear hb hbox hg))
 repeat (go_quiet (first | ((with_reducible refine gate_dst (N := 2) rfl ?_); (try (refine gate_guard (by rfl) ?_; dsimp only)); refine box_event ?hg (N := 2) ?hd (cs := #[.int .i64 a0_0, .int .i64 a0_1, .int .i64 a0_2, .string a0_3, .slice A0_4 l0_4.length c0_4]) (t := 31) ?hr ?_; (case hd => rfl); (case hg => rfl); (case hr => first | (go_simp; done) | (go_simp; rfl)); intro gb104 hg w4 hbox hb; have BK104 := am hbox; have GW104 := gw (w := w) hg tB; have GE104 := GW104; replace HB := am (below_step tB hb); clear hb hbox hg)); go_upto_region 1 with (first | ((with_reducible refine gate_dst (N := 2) rfl ?_); (try (refine gate_guard (by rfl) ?_; dsimp only)); refine box_event ?hg (N := 2) ?hd (cs := #[.int .i64 a0_0, .int .i64 a0_1, .int .i64 a0_2, .string a0_3, .slice A0_4 l0_4.length c0_4]) (t := 31) ?hr ?_; (case hd => rfl); (case hg => rfl); (case hr => first | (go_simp; done) | (go_simp; rfl)); intro gb104 hg w4 hbox hb; have BK104 := am hbox; have GW104 := gw (w := w) hg tB; have GE104 := GW104; replace HB := am (below_step tB hb); clear hb hbox hg)))
 (try simp only [Act.put, List.setIfInBounds_toArray, List.set_cons_zero, List.set_cons_succ])
 go_cut [44] (fun v44 wc => ∃ (kq : Nat) (x44_2 : Bool), v44 = .bool x44_2 ∧ Aside0 (spec_l05Right.j0 kq a1 x44_2 a0_0 a0_1 a0_2 a0_3 l0_4 = some r) ∧ Aside0 (kq ≤ k) ∧ Aside0 (wc.heap[gb104]? = some (.cells #[.int .i64 a0_0, .int .i64 a0_1, .int .i64 a0_2, .string a0_3, (.slice A0_4 l0_4.length c0_4)] 31 (0, 0))) ∧ Aside0 (Below w.heap.size w wc))
 case first =>
  have H := HC3.out
  clear HC3
  by_cases c5 : a0_0 = 3
  ·
   rw [if_pos c5] at H
   have c5b0 : (a0_0 == 3) = true := beq_iff_eq.mpr c5
   have c5b1 : (a0_0 != 3) = false := bne_eq_false_iff_eq.mpr c5
   clear c5
   (first | rw [c5b0] | (simp only [i64_w, i32_w]; rw [c5b0]) | skip)
   by_cases c6 : a0_0 = 9
   ·
    rw [if_pos c6] at H
    have c6b0 : (a0_0 == 9) = true := beq_iff_eq.mpr c6
    have c6b1 : (a0_0 != 9) = false := bne_eq_false_iff_eq.mpr c6
    clear c6
    by_cases c7 : a0_0 = 1
    ·
     rw [if_pos c7] at H
     have c7b0 : (a0_0 == 1) = true := beq_iff_eq.mpr c7
     have c7b1 : (a0_0 != 1) = false := bne_eq_false_iff_eq.mpr c7
     clear c7
     as_aux_lemma =>
      have H' := am H
      clear H
      obtain ⟨hcz8_0, hfz8_0, hcz8_1, hfz8_1, hcz8_2, hfz8_2, hcz8_3, hfz8_3, hcz8_4, hfz8_4⟩ := bkc5 BK104.out
      go_wp2
      repeat (go_quiet (fail); try go_wp2)
      go_meet
      case rel => exact ran0
    rw [if_neg c7] at H
    have c7b0 : (a0_0 == 1) = false := beq_eq_false_iff_ne.mpr c7
    have c7b1 : (a0_0 != 1) = true := bne_iff_ne.mpr c7
    by_cases c9 : a0_0 = 6
    ·
     rw [if_pos c9] at H
     have c9b0 : (a0_0 == 6) = true := beq_iff_eq.mpr c9
     have c9b1 : (a0_0 != 6) = false := bne_eq_false_iff_eq.mpr c9
     clear c9
     as_aux_lemma =>
      have H' := am H
      clear H
      obtain ⟨hcz10_0, hfz10_0, hcz10_1, hfz10_1, hcz10_2, hfz10_2, hcz10_3, hfz10_3, hcz10_4, hfz10_4⟩ := bkc5 BK104.out
      go_wp2
      repeat (go_quiet (fail); try go_wp2)
      go_meet
      case rel => exact ran0
    rw [if_neg c9] at H
    have c9b0 : (a0_0 == 6) = false := beq_eq_false_iff_ne.mpr c9
    have c9b1 : (a0_0 != 6) = true := bne_iff_ne.mpr c9
    as_aux_lemma =>
     have H' := am H
     clear H
     obtain ⟨hcz11_0, hfz11_0, hcz11_1, hfz11_1, hcz11_2, hfz11_2, hcz11_3, hfz11_3, hcz11_4, hfz11_4⟩ := bkc5 BK104.out
     go_wp2
     repeat (go_quiet (fail); try go_wp2)
     go_meet
     case rel => exact ran0
   rw [if_neg c6] at H
   have c6b0 : (a0_0 == 9) = false := beq_eq_false_iff_ne.mpr c6
   have c6b1 : (a0_0 != 9) = true := bne_iff_ne.mpr c6
   by_cases c12 : a0_2 = 0
   ·
    rw [if_pos c12] at H
    have c12b0 : (a0_2 == 0) = true := beq_iff_eq.mpr c12
    have c12b1 : (a0_2 != 0) = false := bne_eq_false_iff_eq.mpr c12
    clear c12
    by_cases c13 : a0_0 = 1
    ·
     rw [if_pos c13] at H
     have c13b0 : (a0_0 == 1) = true := beq_iff_eq.mpr c13
     have c13b1 : (a0_0 != 1) = false := bne_eq_false_iff_eq.mpr c13
     clear c13
     as_aux_lemma =>
      have H' := am H
      clear H
      obtain ⟨hcz14_0, hfz14_0, hcz14_1, hfz14_1, hcz14_2, hfz14_2, hcz14_3, hfz14_3, hcz14_4, hfz14_4⟩ := bkc5 BK104.out
      go_wp2
      repeat (go_quiet (fail); try go_wp2)
      go_meet
      case rel => exact ran0
    rw [if_neg c13] at H
    have c13b0 : (a0_0 == 1) = false := beq_eq_false_iff_ne.mpr c13
    have c13b1 : (a0_0 != 1) = true := bne_iff_ne.mpr c13
    by_cases c15 : a0_0 = 6
    ·
     rw [if_pos c15] at H
     have c15b0 : (a0_0 == 6) = true := beq_iff_eq.mpr c15
     have c15b1 : (a0_0 != 6) = false := bne_eq_false_iff_eq.mpr c15
     clear c15
     as_aux_lemma =>
      have H' := am H
      clear H
      obtain ⟨hcz16_0, hfz16_0, hcz16_1, hfz16_1, hcz16_2, hfz16_2, hcz16_3, hfz16_3, hcz16_4, hfz16_4⟩ := bkc5 BK104.out
      go_wp2
      repeat (go_quiet (fail); try go_wp2)
      go_meet
      case rel => exact ran0
    rw [if_neg c15] at H
    have c15b0 : (a0_0 == 6) = false := beq_eq_false_iff_ne.mpr c15
    have c15b1 : (a0_0 != 6) = true := bne_iff_ne.mpr c15
    as_aux_lemma =>
     have H' := am H
     clear H
     obtain ⟨hcz17_0, hfz17_0, hcz17_1, hfz17_1, hcz17_2, hfz17_2, hcz17_3, hfz17_3, hcz17_4, hfz17_4⟩ := bkc5 BK104.out
     go_wp2
     repeat (go_quiet (fail); try go_wp2)
     go_meet
     case rel => exact ran1
   rw [if_neg c12] at H
   have c12b0 : (a0_2 == 0) = false := beq_eq_false_iff_ne.mpr c12
   have c12b1 : (a0_2 != 0) = true := bne_iff_ne.mpr c12
   as_aux_lemma =>
    have H' := am H
    clear H
    obtain ⟨hcz18_0, hfz18_0, hcz18_1, hfz18_1, hcz18_2, hfz18_2, hcz18_3, hfz18_3, hcz18_4, hfz18_4⟩ := bkc5 BK104.out
    go_wp2
    repeat (go_quiet (fail); try go_wp2)
    go_meet
    case rel => exact ran2
  rw [if_neg c5] at H
  have c5b0 : (a0_0 == 3) = false := beq_eq_false_iff_ne.mpr c5
  have c5b1 : (a0_0 != 3) = true := bne_iff_ne.mpr c5
  (first | rw [c5b0] | (simp only [i64_w, i32_w]; rw [c5b0]) | skip)
  by_cases c19 : a0_3.toList = ([] : List UInt8)
  ·
   rw [if_pos c19] at H
   have c19b0 : (a0_3.toList == ([] : List UInt8)) = true := beq_iff_eq.mpr c19
   have c19b1 : (a0_3.toList != ([] : List UInt8)) = false := bne_eq_false_iff_eq.mpr c19
   clear c19
   by_cases c20 : a0_0 = 9
   ·
    rw [if_pos c20] at H
    have c20b0 : (a0_0 == 9) = true := beq_iff_eq.mpr c20
    have c20b1 : (a0_0 != 9) = false := bne_eq_false_iff_eq.mpr c20
    clear c20
    by_cases c21 : a0_0 = 1
    ·
     rw [if_pos c21] at H
     have c21b0 : (a0_0 == 1) = true := beq_iff_eq.mpr c21
     have c21b1 : (a0_0 != 1) = false := bne_eq_false_iff_eq.mpr c21
     clear c21
     as_aux_lemma =>
      have H' := am H
      clear H
      obtain ⟨hcz22_0, hfz22_0, hcz22_1, hfz22_1, hcz22_2, hfz22_2, hcz22_3, hfz22_3, hcz22_4, hfz22_4⟩ := bkc5 BK104.out
      go_wp2
      repeat (go_quiet (fail); try go_wp2)
      go_meet
      case rel => exact ran0
    rw [if_neg c21] at H
    have c21b0 : (a0_0 == 1) = false := beq_eq_false_iff_ne.mpr c21
    have c21b1 : (a0_0 != 1) = true := bne_iff_ne.mpr c21
    by_cases c23 : a0_0 = 6
    ·
     rw [if_pos c23] at H
     have c23b0 : (a0_0 == 6) = true := beq_iff_eq.mpr c23
     have c23b1 : (a0_0 != 6) = false := bne_eq_false_iff_eq.mpr c23
     clear c23
     as_aux_lemma =>
      have H' := am H
      clear H
      obtain ⟨hcz24_0, hfz24_0, hcz24_1, hfz24_1, hcz24_2, hfz24_2, hcz24_3, hfz24_3, hcz24_4, hfz24_4⟩ := bkc5 BK104.out
      go_wp2
      repeat (go_quiet (fail); try go_wp2)
      go_meet
      case rel => exact ran0
    rw [if_neg c23] at H
    have c23b0 : (a0_0 == 6) = false := beq_eq_false_iff_ne.mpr c23
    have c23b1 : (a0_0 != 6) = true := bne_iff_ne.mpr c23
    as_aux_lemma =>
     have H' := am H
     clear H
     obtain ⟨hcz25_0, hfz25_0, hcz25_1, hfz25_1, hcz25_2, hfz25_2, hcz25_3, hfz25_3, hcz25_4, hfz25_4⟩ := bkc5 BK104.out
     go_wp2
     repeat (go_quiet (fail); try go_wp2)
     go_meet
     case rel => exact ran0
   rw [if_neg c20] at H
   have c20b0 : (a0_0 == 9) = false := beq_eq_false_iff_ne.mpr c20
   have c20b1 : (a0_0 != 9) = true := bne_iff_ne.mpr c20
   by_cases c26 : a0_2 = 0
   ·
    rw [if_pos c26] at H
    have c26b0 : (a0_2 == 0) = true := beq_iff_eq.mpr c26
    have c26b1 : (a0_2 != 0) = false := bne_eq_false_iff_eq.mpr c26
    clear c26
    by_cases c27 : a0_0 = 1
    ·
     rw [if_pos c27] at H
     have c27b0 : (a0_0 == 1) = true := beq_iff_eq.mpr c27
     have c27b1 : (a0_0 != 1) = false := bne_eq_false_iff_eq.mpr c27
     clear c27
     as_aux_lemma =>
      have H' := am H
      clear H
      obtain ⟨hcz28_0, hfz28_0, hcz28_1, hfz28_1, hcz28_2, hfz28_2, hcz28_3, hfz28_3, hcz28_4, hfz28_4⟩ := bkc5 BK104.out
      go_wp2
      repeat (go_quiet (fail); try go_wp2)
      go_meet
      case rel => exact ran0
    rw [if_neg c27] at H
    have c27b0 : (a0_0 == 1) = false := beq_eq_false_iff_ne.mpr c27
    have c27b1 : (a0_0 != 1) = true := bne_iff_ne.mpr c27
    by_cases c29 : a0_0 = 6
    ·
     rw [if_pos c29] at H
     have c29b0 : (a0_0 == 6) = true := beq_iff_eq.mpr c29
     have c29b1 : (a0_0 != 6) = false := bne_eq_false_iff_eq.mpr c29
     clear c29
     as_aux_lemma =>
      have H' := am H
      clear H
      obtain ⟨hcz30_0, hfz30_0, hcz30_1, hfz30_1, hcz30_2, hfz30_2, hcz30_3, hfz30_3, hcz30_4, hfz30_4⟩ := bkc5 BK104.out
      go_wp2
      repeat (go_quiet (fail); try go_wp2)
      go_meet
      case rel => exact ran0
    rw [if_neg c29] at H
    have c29b0 : (a0_0 == 6) = false := beq_eq_false_iff_ne.mpr c29
    have c29b1 : (a0_0 != 6) = true := bne_iff_ne.mpr c29
    as_aux_lemma =>
     have H' := am H
     clear H
     obtain ⟨hcz31_0, hfz31_0, hcz31_1, hfz31_1, hcz31_2, hfz31_2, hcz31_3, hfz31_3, hcz31_4, hfz31_4⟩ := bkc5 BK104.out
     go_wp2
     repeat (go_quiet (fail); try go_wp2)
     go_meet
     case rel => exact ran1
   rw [if_neg c26] at H
   have c26b0 : (a0_2 == 0) = false := beq_eq_false_iff_ne.mpr c26
   have c26b1 : (a0_2 != 0) = true := bne_iff_ne.mpr c26
   as_aux_lemma =>
    have H' := am H
    clear H
    obtain ⟨hcz32_0, hfz32_0, hcz32_1, hfz32_1, hcz32_2, hfz32_2, hcz32_3, hfz32_3, hcz32_4, hfz32_4⟩ := bkc5 BK104.out
    go_wp2
    repeat (go_quiet (fail); try go_wp2)
    go_meet
    case rel => exact ran2
  rw [if_neg c19] at H
  have c19b0 : (a0_3.toList == ([] : List UInt8)) = false := beq_eq_false_iff_ne.mpr c19
  have c19b1 : (a0_3.toList != ([] : List UInt8)) = true := bne_iff_ne.mpr c19
  as_aux_lemma =>
   have H' := am H
   clear H
   obtain ⟨hcz33_0, hfz33_0, hcz33_1, hfz33_1, hcz33_2, hfz33_2, hcz33_3, hfz33_3, hcz33_4, hfz33_4⟩ := bkc5 BK104.out
   go_wp2
   repeat (go_quiet (fail); try go_wp2)
   go_meet
   case rel => exact ran2
 case rest =>
  clear HC3
  obtain ⟨kq, x44_2, rfl, HA, HJ2, BK104, HB⟩ := hcut
  cases kq with
  | zero => exact absurd HA.out (by simp [spec_l05Right.j0])
  | succ kj2 =>
   have H := HA.out
   clear HA
   simp only [spec_l05Right.j0] at H
   by_cases c34 : x44_2 = true
   ·
    subst c34
    have H1 : (some (-1)) = some r := by rw [if_pos rfl] at H; exact H
    clear H
    have H := H1
    clear H1
    as_aux_lemma =>
     obtain rfl := Option.some.inj H
     go_wp2
     repeat (go_quiet (fail); try go_wp2)
     go_ret
     exact ⟨tE, tG⟩
   replace c34 := Bool.eq_false_iff.mpr c34
   subst c34
   have H1 : (if a0_0 = 1 then (if a0_1 < 0 then (some (-1)) else (if a0_1 > 255 then (some (-1)) else (if (l0_4.length : Int) = 0 then (spec_l05Right.j4 kj2 a1 a0_0 a0_1 a0_2 a0_3 l0_4) else (some (-1))))) else (if a0_0 = 2 then (spec_l05Right.j1 kj2 a1 a0_0 (a0_0 == 2) a0_0 a0_1 a0_2 a0_3 l0_4) else (if a0_0 = 4 then (spec_l05Right.j1 kj2 a1 a0_0 (a0_0 == 4) a0_0 a0_1 a0_2 a0_3 l0_4) else (spec_l05Right.j1 kj2 a1 a0_0 (a0_0 == 5) a0_0 a0_1 a0_2 a0_3 l0_4)))) = some r := by rw [if_neg (show ¬ (false = true) by decide)] at H; exact H
   clear H
   have H := H1
   clear H1
   have HC35 := am H
   clear H
   obtain ⟨hcz36_0, hfz36_0, hcz36_1, hfz36_1, hcz36_2, hfz36_2, hcz36_3, hfz36_3, hcz36_4, hfz36_4⟩ := bkc5 BK104.out
   go_upto_block 0 with (fail)
   repeat (go_quiet (fail); go_upto_block 0 with (fail))
   go_cut [1] (fun v1 wc => ∃ (kq : Nat) (x1_34 : Int), v1 = .int .i64 x1_34 ∧ Aside0 (spec_l05Right.j4 kq x1_34 a0_0 a0_1 a0_2 a0_3 l0_4 = some r) ∧ Aside0 (kq ≤ kj2) ∧ Aside0 (wc.heap[gb104]? = some (.cells #[.int .i64 a0_0, .int .i64 a0_1, .int .i64 a0_2, .string a0_3, (.slice A0_4 l0_4.length c0_4)] 31 (0, 0))) ∧ Aside0 (Below w.heap.size w wc))
   case first =>
    have H := HC35.out
    clear HC35
    by_cases c37 : a0_0 = 1
    ·
     rw [if_pos c37] at H
     have c37b0 : (a0_0 == 1) = true := beq_iff_eq.mpr c37
     have c37b1 : (a0_0 != 1) = false := bne_eq_false_iff_eq.mpr c37
     clear c37
     (first | rw [c37b0] | (simp only [i64_w, i32_w]; rw [c37b0]) | skip)
     by_cases c38 : a0_1 < 0
     ·
      rw [if_pos c38] at H
      have c38b0 : decide (a0_1 < 0) = true := decide_eq_true c38
      clear c38
      as_aux_lemma =>
       obtain rfl := Option.some.inj H
       obtain ⟨hcz39_0, hfz39_0, hcz39_1, hfz39_1, hcz39_2, hfz39_2, hcz39_3, hfz39_3, hcz39_4, hfz39_4⟩ := bkc5 BK104.out
       go_wp2
       repeat (go_quiet (fail); try go_wp2)
       go_ret
       exact ⟨tE, tG⟩
     rw [if_neg c38] at H
     have c38b0 : decide (a0_1 < 0) = false := decide_eq_false c38
     clear c38
     by_cases c40 : a0_1 > 255
     ·
      rw [if_pos c40] at H
      have c40b0 : decide (255 < a0_1) = true := decide_eq_true c40
      clear c40
      as_aux_lemma =>
       obtain rfl := Option.some.inj H
       obtain ⟨hcz41_0, hfz41_0, hcz41_1, hfz41_1, hcz41_2, hfz41_2, hcz41_3, hfz41_3, hcz41_4, hfz41_4⟩ := bkc5 BK104.out
       go_wp2
       repeat (go_quiet (fail); try go_wp2)
       go_ret
       exact ⟨tE, tG⟩
     rw [if_neg c40] at H
     have c40b0 : decide (255 < a0_1) = false := decide_eq_false c40
     clear c40
     by_cases c42 : (l0_4.length : Int) = 0
     ·
      rw [if_pos c42] at H
      have c42b0 : ((l0_4.length : Int) == 0) = true := beq_iff_eq.mpr c42
      have c42b1 : ((l0_4.length : Int) != 0) = false := bne_eq_false_iff_eq.mpr c42
      clear c42
      as_aux_lemma =>
       have H' := am H
       clear H
       obtain ⟨hcz43_0, hfz43_0, hcz43_1, hfz43_1, hcz43_2, hfz43_2, hcz43_3, hfz43_3, hcz43_4, hfz43_4⟩ := bkc5 BK104.out
       go_wp2
       repeat (go_quiet (fail); try go_wp2)
       go_meet
       case rel => exact ⟨_, (a1), fs, H', ⟨by have := HJ2.out; first | omega | exact Nat.le_refl _⟩, ⟨tK⟩, ⟨tG⟩⟩
     rw [if_neg c42] at H
     have c42b0 : ((l0_4.length : Int) == 0) = false := beq_eq_false_iff_ne.mpr c42
     have c42b1 : ((l0_4.length : Int) != 0) = true := bne_iff_ne.mpr c42
     have c42b2 : ¬ (l0_4 = []) := fun h_ => c42 (by rw [h_]; rfl)
     as_aux_lemma =>
      obtain rfl := Option.some.inj H
      obtain ⟨hcz44_0, hfz44_0, hcz44_1, hfz44_1, hcz44_2, hfz44_2, hcz44_3, hfz44_3, hcz44_4, hfz44_4⟩ := bkc5 BK104.out
      go_wp2
      repeat (go_quiet (fail); try go_wp2)
      go_ret
      exact ⟨tE, tG⟩
    rw [if_neg c37] at H
    have c37b0 : (a0_0 == 1) = false := beq_eq_false_iff_ne.mpr c37
    have c37b1 : (a0_0 != 1) = true := bne_iff_ne.mpr c37
    (first | rw [c37b0] | (simp only [i64_w, i32_w]; rw [c37b0]) | skip)
    have HC45 := am H
    clear H
    go_upto_if 63 with (fail)
    repeat (go_quiet (fail); go_upto_if 63 with (fail))
    go_cut [63] (fun v63 wc => ∃ (kq : Nat) (x63_44 : Bool), v63 = .bool x63_44 ∧ Aside0 (spec_l05Right.j1 kq a1 a0_0 x63_44 a0_0 a0_1 a0_2 a0_3 l0_4 = some r) ∧ Aside0 (kq ≤ kj2) ∧ Aside0 (wc.heap[gb104]? = some (.cells #[.int .i64 a0_0, .int .i64 a0_1, .int .i64 a0_2, .string a0_3, (.slice A0_4 l0_4.length c0_4)] 31 (0, 0))) ∧ Aside0 (Below w.heap.size w wc))
    case first =>
     have H := HC45.out
     clear HC45
     by_cases c46 : a0_0 = 2
     ·
      rw [if_pos c46] at H
      have c46b0 : (a0_0 == 2) = true := beq_iff_eq.mpr c46
      have c46b1 : (a0_0 != 2) = false := bne_eq_false_iff_eq.mpr c46
      clear c46
      (first | rw [c46b0] | (simp only [i64_w, i32_w]; rw [c46b0]) | skip)
      as_aux_lemma =>
       have H' := am H
       clear H
       go_wp2
       repeat (go_quiet (fail); try go_wp2)
       go_meet
       case rel => exact ⟨_, ((a0_0 == 2)), fs, H', ⟨by have := HJ2.out; first | omega | exact Nat.le_refl _⟩, ⟨tK⟩, ⟨tG⟩⟩
     rw [if_neg c46] at H
     have c46b0 : (a0_0 == 2) = false := beq_eq_false_iff_ne.mpr c46
     have c46b1 : (a0_0 != 2) = true := bne_iff_ne.mpr c46
     (first | rw [c46b0] | (simp only [i64_w, i32_w]; rw [c46b0]) | skip)
     by_cases c47 : a0_0 = 4
     ·
      rw [if_pos c47] at H
      have c47b0 : (a0_0 == 4) = true := beq_iff_eq.mpr c47
      have c47b1 : (a0_0 != 4) = false := bne_eq_false_iff_eq.mpr c47
      clear c47
      as_aux_lemma =>
       have H' := am H
       clear H
       go_wp2
       repeat (go_quiet (fail); try go_wp2)
       go_meet
       case rel => exact ⟨_, ((a0_0 == 4)), fs, H', ⟨by have := HJ2.out; first | omega | exact Nat.le_refl _⟩, ⟨tK⟩, ⟨tG⟩⟩
     rw [if_neg c47] at H
     have c47b0 : (a0_0 == 4) = false := beq_eq_false_iff_ne.mpr c47
     have c47b1 : (a0_0 != 4) = true := bne_iff_ne.mpr c47
     as_aux_lemma =>
      have H' := am H
      clear H
      go_wp2
      repeat (go_quiet (fail); try go_wp2)
      go_meet
      case rel => exact ⟨_, ((a0_0 == 5)), fs, H', ⟨by have := HJ2.out; first | omega | exact Nat.le_refl _⟩, ⟨tK⟩, ⟨tG⟩⟩
    case rest =>
     clear HC45
     try clear c34
     try clear c37
     try clear c37b0
     try clear c37b1
     try clear hcz36_0
     try clear hcz36_1
     try clear hcz36_2
     try clear hcz36_3
     try clear hcz36_4
     try clear hfz36_0
     try clear hfz36_1
     try clear hfz36_2
     try clear hfz36_3
     try clear hfz36_4
     obtain ⟨kq, x63_44, rfl, HA, HJ44, BK104, HB⟩ := hcut
     cases kq with
     | zero => exact absurd HA.out (by simp [spec_l05Right.j1])
     | succ kj44 =>
      have H := HA.out
      clear HA
      simp only [spec_l05Right.j1] at H
      by_cases c48 : x63_44 = true
      ·
       subst c48
       have H1 : (if (l0_4.length : Int) = 0 then (spec_l05Right.j4 kj44 a1 a0_0 a0_1 a0_2 a0_3 l0_4) else (some (-1))) = some r := by rw [if_pos rfl] at H; exact H
       clear H
       have H := H1
       clear H1
       by_cases c49 : (l0_4.length : Int) = 0
       ·
        rw [if_pos c49] at H
        have c49b0 : ((l0_4.length : Int) == 0) = true := beq_iff_eq.mpr c49
        have c49b1 : ((l0_4.length : Int) != 0) = false := bne_eq_false_iff_eq.mpr c49
        clear c49
        as_aux_lemma =>
         have H' := am H
         clear H
         obtain ⟨hcz50_0, hfz50_0, hcz50_1, hfz50_1, hcz50_2, hfz50_2, hcz50_3, hfz50_3, hcz50_4, hfz50_4⟩ := bkc5 BK104.out
         go_wp2
         repeat (go_quiet (fail); try go_wp2)
         go_meet
         case rel => exact ran3
       rw [if_neg c49] at H
       have c49b0 : ((l0_4.length : Int) == 0) = false := beq_eq_false_iff_ne.mpr c49
       have c49b1 : ((l0_4.length : Int) != 0) = true := bne_iff_ne.mpr c49
       have c49b2 : ¬ (l0_4 = []) := fun h_ => c49 (by rw [h_]; rfl)
       as_aux_lemma =>
        obtain rfl := Option.some.inj H
        obtain ⟨hcz51_0, hfz51_0, hcz51_1, hfz51_1, hcz51_2, hfz51_2, hcz51_3, hfz51_3, hcz51_4, hfz51_4⟩ := bkc5 BK104.out
        go_wp2
        repeat (go_quiet (fail); try go_wp2)
        go_ret
        exact ⟨tE, tG⟩
      replace c48 := Bool.eq_false_iff.mpr c48
      subst c48
      have H1 : (if a0_0 = 3 then (if (l0_4.length : Int) = 0 then (if (a0_3.size : Int) = 0 then (spec_l05Right.j2 kj44 a1 true a0_0 a0_1 a0_2 a0_3 l0_4) else (spec_l05Right.j2 kj44 a1 (decide ((a0_3.size : Int) > 256)) a0_0 a0_1 a0_2 a0_3 l0_4)) else (spec_l05Right.j2 kj44 a1 true a0_0 a0_1 a0_2 a0_3 l0_4)) else (if a0_0 = 6 then (if a0_1 = a1 then (if a1 > 9 then (some (-1)) else (if (l0_4.length : Int) = 1 then (spec_l05Right.j4 kj44 (wrap64 (a1 + 1)) a0_0 a0_1 a0_2 a0_3 l0_4) else (some (-1)))) else (some (-1))) else (if a0_0 = 7 then (spec_l05Right.j4 kj44 a1 a0_0 a0_1 a0_2 a0_3 l0_4) else (if a0_0 = 8 then (if (l0_4.length : Int) < 2 then (some (-1)) else (spec_l05Right.j4 kj44 a1 a0_0 a0_1 a0_2 a0_3 l0_4)) else (if a0_0 = 9 then (if (l0_4.length : Int) = 1 then (if a0_1 < 0 then (some (-1)) else (if a0_1 > 20 then (some (-1)) else (if a0_2 < (-1) then (some (-1)) else (if a0_2 > 20 then (some (-1)) else (if a0_2 ≥ 0 then (if a0_2 < a0_1 then (some (-1)) else (spec_l05Right.j4 kj44 a1 a0_0 a0_1 a0_2 a0_3 l0_4)) else (spec_l05Right.j4 kj44 a1 a0_0 a0_1 a0_2 a0_3 l0_4)))))) else (some (-1))) else (some (-1))))))) = some r := by rw [if_neg (show ¬ (false = true) by decide)] at H; exact H
      clear H
      have H := H1
      clear H1
      by_cases c52 : a0_0 = 3
      ·
       rw [if_pos c52] at H
       have c52b0 : (a0_0 == 3) = true := beq_iff_eq.mpr c52
       have c52b1 : (a0_0 != 3) = false := bne_eq_false_iff_eq.mpr c52
       clear c52
       have HC53 := am H
       clear H
       go_upto_region 14 with (fail)
       repeat (go_quiet (fail); go_upto_region 14 with (fail))
       go_cut [88] (fun v88 wc => ∃ (kq : Nat) (x88_52 : Bool), v88 = .bool x88_52 ∧ Aside0 (spec_l05Right.j2 kq a1 x88_52 a0_0 a0_1 a0_2 a0_3 l0_4 = some r) ∧ Aside0 (kq ≤ kj44) ∧ Aside0 (wc.heap[gb104]? = some (.cells #[.int .i64 a0_0, .int .i64 a0_1, .int .i64 a0_2, .string a0_3, (.slice A0_4 l0_4.length c0_4)] 31 (0, 0))) ∧ Aside0 (Below w.heap.size w wc))
       case first =>
        have H := HC53.out
        clear HC53
        by_cases c54 : (l0_4.length : Int) = 0
        ·
         rw [if_pos c54] at H
         have c54b0 : ((l0_4.length : Int) == 0) = true := beq_iff_eq.mpr c54
         have c54b1 : ((l0_4.length : Int) != 0) = false := bne_eq_false_iff_eq.mpr c54
         clear c54
         (first | rw [c54b0] | (simp only [i64_w, i32_w]; rw [c54b0]) | skip)
         by_cases c55 : (a0_3.size : Int) = 0
         ·
          rw [if_pos c55] at H
          have c55b0 : ((a0_3.size : Int) == 0) = true := beq_iff_eq.mpr c55
          have c55b1 : ((a0_3.size : Int) != 0) = false := bne_eq_false_iff_eq.mpr c55
          clear c55
          as_aux_lemma =>
           have H' := am H
           clear H
           obtain ⟨hcz56_0, hfz56_0, hcz56_1, hfz56_1, hcz56_2, hfz56_2, hcz56_3, hfz56_3, hcz56_4, hfz56_4⟩ := bkc5 BK104.out
           go_wp2
           repeat (go_quiet (fail); try go_wp2)
           go_meet
           case rel => exact ran4
         rw [if_neg c55] at H
         have c55b0 : ((a0_3.size : Int) == 0) = false := beq_eq_false_iff_ne.mpr c55
         have c55b1 : ((a0_3.size : Int) != 0) = true := bne_iff_ne.mpr c55
         as_aux_lemma =>
          have H' := am H
          clear H
          obtain ⟨hcz57_0, hfz57_0, hcz57_1, hfz57_1, hcz57_2, hfz57_2, hcz57_3, hfz57_3, hcz57_4, hfz57_4⟩ := bkc5 BK104.out
          go_wp2
          repeat (go_quiet (fail); try go_wp2)
          go_meet
          case rel => exact ⟨_, (decide ((a0_3.size : Int) > 256)), fs, H', ⟨by have := HJ2.out; have := HJ44.out; first | omega | exact Nat.le_refl _⟩, ⟨tK⟩, ⟨tG⟩⟩
        rw [if_neg c54] at H
        have c54b0 : ((l0_4.length : Int) == 0) = false := beq_eq_false_iff_ne.mpr c54
        have c54b1 : ((l0_4.length : Int) != 0) = true := bne_iff_ne.mpr c54
        have c54b2 : ¬ (l0_4 = []) := fun h_ => c54 (by rw [h_]; rfl)
        (first | rw [c54b0] | (simp only [i64_w, i32_w]; rw [c54b0]) | skip)
        as_aux_lemma =>
         have H' := am H
         clear H
         obtain ⟨hcz58_0, hfz58_0, hcz58_1, hfz58_1, hcz58_2, hfz58_2, hcz58_3, hfz58_3, hcz58_4, hfz58_4⟩ := bkc5 BK104.out
         go_wp2
         repeat (go_quiet (fail); try go_wp2)
         go_meet
         case rel => exact ran4
       case rest =>
        clear HC53
        try clear c34
        try clear c37
        try clear c37b0
        try clear c37b1
        try clear c48
        try clear c52
        try clear c52b0
        try clear c52b1
        try clear hcz36_0
        try clear hcz36_1
        try clear hcz36_2
        try clear hcz36_3
        try clear hcz36_4
        try clear hfz36_0
        try clear hfz36_1
        try clear hfz36_2
        try clear hfz36_3
        try clear hfz36_4
        obtain ⟨kq, x88_52, rfl, HA, HJ52, BK104, HB⟩ := hcut
        cases kq with
        | zero => exact absurd HA.out (by simp [spec_l05Right.j2])
        | succ kj52 =>
         have H := HA.out
         clear HA
         simp only [spec_l05Right.j2] at H
         by_cases c59 : x88_52 = true
         ·
          subst c59
          have H1 : (some (-1)) = some r := by rw [if_pos rfl] at H; exact H
          clear H
          have H := H1
          clear H1
          as_aux_lemma =>
           obtain rfl := Option.some.inj H
           go_wp2
           repeat (go_quiet (fail); try go_wp2)
           go_ret
           exact ⟨tE, tG⟩
         replace c59 := Bool.eq_false_iff.mpr c59
         subst c59
         have H1 : (spec_l05Right.l0 kj52 a1 1 a0_0 a0_1 a0_2 a0_3 l0_4) = some r := by rw [if_neg (show ¬ (false = true) by decide)] at H; exact H
         clear H
         have H := H1
         clear H1
         have H' := am H
         clear H
         go_wp2
         repeat (go_quiet (fail); try go_wp2)
         go_loopg [5] kj52 (fun kq v5 w' => ∃ (x5_4 : Int), v5 = .int .i64 x5_4 ∧ Aside0 (spec_l05Right.l0 kq a1 x5_4 a0_0 a0_1 a0_2 a0_3 l0_4 = some r) ∧ Aside0 (kq ≤ kj52) ∧ Aside0 (w'.heap[gb104]? = some (.cells #[.int .i64 a0_0, .int .i64 a0_1, .int .i64 a0_2, .string a0_3, (.slice A0_4 l0_4.length c0_4)] 31 (0, 0))) ∧ Aside0 (Below w.heap.size w w'))
         case atStart => exact ⟨(1), fs, H', ⟨Nat.le_refl _⟩, ⟨tK⟩, ⟨tG⟩⟩
         case round =>
          clear H'
          try clear c34
          try clear c37
          try clear c37b0
          try clear c37b1
          try clear c48
          try clear c52
          try clear c52b0
          try clear c52b1
          try clear c59
          try clear hcz36_0
          try clear hcz36_1
          try clear hcz36_2
          try clear hcz36_3
          try clear hcz36_4
          try clear hfz36_0
          try clear hfz36_1
          try clear hfz36_2
          try clear hfz36_3
          try clear hfz36_4
          obtain ⟨x5_4, rfl, HA, HK4, BK104, HB⟩ := hrel
          cases gk with
          | zero => exact absurd HA.out (by simp [spec_l05Right.l0])
          | succ k4 =>
           have H := HA.out
           clear HA
           simp only [spec_l05Right.l0] at H
           by_cases c60 : x5_4 < (a0_3.size : Int)
           ·
            rw [if_pos c60] at H
            have c60b0 : decide (x5_4 < (a0_3.size : Int)) = true := decide_eq_true c60
            clear c60
            obtain ⟨ji61, hji61⟩ : ∃ j_ : Int, (wrap64 (x5_4 - 1)) = j_ := ⟨_, rfl⟩
            replace H : (if 0 ≤ (ji61) then (if (ji61) < (a0_3.size : Int) then (if 0 ≤ x5_4 then (if (bt a0_3 (ji61)) ≥ (bt a0_3 x5_4) then (some (-1)) else (spec_l05Right.l0 k4 a1 (wrap64 (x5_4 + 1)) a0_0 a0_1 a0_2 a0_3 l0_4)) else (none)) else (none)) else (none)) = some r := by first | (rw [hji61] at H; exact H) | (simp only [hji61] at H ⊢; exact H)
            have hji61w : (IntKind.i64.wrap (x5_4 - 1)) = ji61 := (i64_w _).trans hji61
            by_cases c62 : 0 ≤ (ji61)
            ·
             rw [if_pos c62] at H
             have c62b0 : decide (0 ≤ (ji61)) = true := decide_eq_true c62
             clear c62
             by_cases c63 : (ji61) < (a0_3.size : Int)
             ·
              rw [if_pos c63] at H
              have c63b0 : decide ((ji61) < (a0_3.size : Int)) = true := decide_eq_true c63
              clear c63
              by_cases c65 : 0 ≤ x5_4
              ·
               rw [if_pos c65] at H
               have c65b0 : decide (0 ≤ x5_4) = true := decide_eq_true c65
               clear c65
               by_cases c67 : (bt a0_3 (ji61)) ≥ (bt a0_3 x5_4)
               ·
                rw [if_pos c67] at H
                have c67b0 : decide ((bt a0_3 x5_4) ≤ (bt a0_3 (ji61))) = true := decide_eq_true c67
                clear c67
                as_aux_lemma =>
                 obtain rfl := Option.some.inj H
                 obtain ⟨hcz68_0, hfz68_0, hcz68_1, hfz68_1, hcz68_2, hfz68_2, hcz68_3, hfz68_3, hcz68_4, hfz68_4⟩ := bkc5 BK104.out
                 have p64 : 0 ≤ ((ji61) : Int) := od
                 have q64 : (ji61) < (a0_3.size : Int) := od
                 have hx64 := bt_at a0_3 (ji61)
                 replace p64 := eq_true p64
                 replace q64 := eq_true q64
                 have p66 : 0 ≤ (x5_4 : Int) := od
                 have q66 : x5_4 < (a0_3.size : Int) := od
                 have hx66 := bt_at a0_3 x5_4
                 replace p66 := eq_true p66
                 replace q66 := eq_true q66
                 go_wp2
                 repeat (go_quiet (fail); try go_wp2)
                 go_ret
                 exact ⟨by first | rfl | (simp [errW_none, errW_some] <;> rfl) | (simp only [← hji61]; first | rfl | (simp [errW_none, errW_some] <;> rfl)) | (simp [*, errW_none, errW_some] <;> rfl), tG⟩
               rw [if_neg c67] at H
               have c67b0 : decide ((bt a0_3 x5_4) ≤ (bt a0_3 (ji61))) = false := decide_eq_false c67
               clear c67
               as_aux_lemma =>
                have H' := am H
                clear H
                obtain ⟨hcz69_0, hfz69_0, hcz69_1, hfz69_1, hcz69_2, hfz69_2, hcz69_3, hfz69_3, hcz69_4, hfz69_4⟩ := bkc5 BK104.out
                have p64 : 0 ≤ ((ji61) : Int) := od
                have q64 : (ji61) < (a0_3.size : Int) := od
                have hx64 := bt_at a0_3 (ji61)
                replace p64 := eq_true p64
                replace q64 := eq_true q64
                have p66 : 0 ≤ (x5_4 : Int) := od
                have q66 : x5_4 < (a0_3.size : Int) := od
                have hx66 := bt_at a0_3 x5_4
                replace p66 := eq_true p66
                replace q66 := eq_true q66
                go_wp2
                repeat (go_quiet (fail); try go_wp2)
                go_roundg k4
                case measure => have := HJ2.out; have := HJ44.out; have := HJ52.out; have := HK4.out; omega
                case rel => exact ⟨(wrap64 (x5_4 + 1)), fs, H', ⟨by have := HJ2.out; have := HJ44.out; have := HJ52.out; have := HK4.out; omega⟩, ⟨tK⟩, ⟨tG⟩⟩
              rw [if_neg c65] at H
              exact absurd H (by simp)
             rw [if_neg c63] at H
             exact absurd H (by simp)
            rw [if_neg c62] at H
            exact absurd H (by simp)
           rw [if_neg c60] at H
           have c60b0 : decide (x5_4 < (a0_3.size : Int)) = false := decide_eq_false c60
           clear c60
           as_aux_lemma =>
            have H' := am H
            clear H
            obtain ⟨hcz70_0, hfz70_0, hcz70_1, hfz70_1, hcz70_2, hfz70_2, hcz70_3, hfz70_3, hcz70_4, hfz70_4⟩ := bkc5 BK104.out
            go_wp2
            repeat (go_quiet (fail); try go_wp2)
            go_meet
            case rel => exact ⟨_, (a1), fs, H', ⟨by have := HJ2.out; have := HJ44.out; have := HJ52.out; have := HK4.out; first | omega | exact Nat.le_refl _⟩, ⟨tK⟩, ⟨tG⟩⟩
      rw [if_neg c52] at H
      have c52b0 : (a0_0 == 3) = false := beq_eq_false_iff_ne.mpr c52
      have c52b1 : (a0_0 != 3) = true := bne_iff_ne.mpr c52
      by_cases c71 : a0_0 = 6
      ·
       rw [if_pos c71] at H
       have c71b0 : (a0_0 == 6) = true := beq_iff_eq.mpr c71
       have c71b1 : (a0_0 != 6) = false := bne_eq_false_iff_eq.mpr c71
       clear c71
       by_cases c72 : a0_1 = a1
       ·
        rw [if_pos c72] at H
        have c72b0 : (a0_1 == a1) = true := beq_iff_eq.mpr c72
        have c72b1 : (a0_1 != a1) = false := bne_eq_false_iff_eq.mpr c72
        clear c72
        by_cases c73 : a1 > 9
        ·
         rw [if_pos c73] at H
         have c73b0 : decide (9 < a1) = true := decide_eq_true c73
         clear c73
         as_aux_lemma =>
          obtain rfl := Option.some.inj H
          obtain ⟨hcz74_0, hfz74_0, hcz74_1, hfz74_1, hcz74_2, hfz74_2, hcz74_3, hfz74_3, hcz74_4, hfz74_4⟩ := bkc5 BK104.out
          go_wp2
          repeat (go_quiet (fail); try go_wp2)
          go_ret
          exact ⟨tE, tG⟩
        rw [if_neg c73] at H
        have c73b0 : decide (9 < a1) = false := decide_eq_false c73
        clear c73
        by_cases c75 : (l0_4.length : Int) = 1
        ·
         rw [if_pos c75] at H
         have c75b0 : ((l0_4.length : Int) == 1) = true := beq_iff_eq.mpr c75
         have c75b1 : ((l0_4.length : Int) != 1) = false := bne_eq_false_iff_eq.mpr c75
         clear c75
         as_aux_lemma =>
          have H' := am H
          clear H
          obtain ⟨hcz76_0, hfz76_0, hcz76_1, hfz76_1, hcz76_2, hfz76_2, hcz76_3, hfz76_3, hcz76_4, hfz76_4⟩ := bkc5 BK104.out
          go_wp2
          repeat (go_quiet (fail); try go_wp2)
          go_meet
          case rel => exact ⟨_, (wrap64 (a1 + 1)), fs, H', ⟨by have := HJ2.out; have := HJ44.out; first | omega | exact Nat.le_refl _⟩, ⟨tK⟩, ⟨tG⟩⟩
        rw [if_neg c75] at H
        have c75b0 : ((l0_4.length : Int) == 1) = false := beq_eq_false_iff_ne.mpr c75
        have c75b1 : ((l0_4.length : Int) != 1) = true := bne_iff_ne.mpr c75
        as_aux_lemma =>
         obtain rfl := Option.some.inj H
         obtain ⟨hcz77_0, hfz77_0, hcz77_1, hfz77_1, hcz77_2, hfz77_2, hcz77_3, hfz77_3, hcz77_4, hfz77_4⟩ := bkc5 BK104.out
         go_wp2
         repeat (go_quiet (fail); try go_wp2)
         go_ret
         exact ⟨tE, tG⟩
       rw [if_neg c72] at H
       have c72b0 : (a0_1 == a1) = false := beq_eq_false_iff_ne.mpr c72
       have c72b1 : (a0_1 != a1) = true := bne_iff_ne.mpr c72
       as_aux_lemma =>
        obtain rfl := Option.some.inj H
        obtain ⟨hcz78_0, hfz78_0, hcz78_1, hfz78_1, hcz78_2, hfz78_2, hcz78_3, hfz78_3, hcz78_4, hfz78_4⟩ := bkc5 BK104.out
        go_wp2
        repeat (go_quiet (fail); try go_wp2)
        go_ret
        exact ⟨tE, tG⟩
      rw [if_neg c71] at H
      have c71b0 : (a0_0 == 6) = false := beq_eq_false_iff_ne.mpr c71
      have c71b1 : (a0_0 != 6) = true := bne_iff_ne.mpr c71
      by_cases c79 : a0_0 = 7
      ·
       rw [if_pos c79] at H
       have c79b0 : (a0_0 == 7) = true := beq_iff_eq.mpr c79
       have c79b1 : (a0_0 != 7) = false := bne_eq_false_iff_eq.mpr c79
       clear c79
       as_aux_lemma =>
        have H' := am H
        clear H
        go_wp2
        repeat (go_quiet (fail); try go_wp2)
        go_meet
        case rel => exact ran3
      rw [if_neg c79] at H
      have c79b0 : (a0_0 == 7) = false := beq_eq_false_iff_ne.mpr c79
      have c79b1 : (a0_0 != 7) = true := bne_iff_ne.mpr c79
      by_cases c80 : a0_0 = 8
      ·
       rw [if_pos c80] at H
       have c80b0 : (a0_0 == 8) = true := beq_iff_eq.mpr c80
       have c80b1 : (a0_0 != 8) = false := bne_eq_false_iff_eq.mpr c80
       clear c80
       by_cases c81 : (l0_4.length : Int) < 2
       ·
        rw [if_pos c81] at H
        have c81b0 : decide ((l0_4.length : Int) < 2) = true := decide_eq_true c81
        have c81b1 : decide (l0_4.length < 2) = true := decide_eq_true (by omega)
        clear c81
        as_aux_lemma =>
         obtain rfl := Option.some.inj H
         obtain ⟨hcz82_0, hfz82_0, hcz82_1, hfz82_1, hcz82_2, hfz82_2, hcz82_3, hfz82_3, hcz82_4, hfz82_4⟩ := bkc5 BK104.out
         go_wp2
         repeat (go_quiet (fail); try go_wp2)
         go_ret
         exact ⟨tE, tG⟩
       rw [if_neg c81] at H
       have c81b0 : decide ((l0_4.length : Int) < 2) = false := decide_eq_false c81
       have c81b1 : decide (l0_4.length < 2) = false := decide_eq_false (by omega)
       clear c81
       as_aux_lemma =>
        have H' := am H
        clear H
        obtain ⟨hcz83_0, hfz83_0, hcz83_1, hfz83_1, hcz83_2, hfz83_2, hcz83_3, hfz83_3, hcz83_4, hfz83_4⟩ := bkc5 BK104.out
        go_wp2
        repeat (go_quiet (fail); try go_wp2)
        go_meet
        case rel => exact ran3
      rw [if_neg c80] at H
      have c80b0 : (a0_0 == 8) = false := beq_eq_false_iff_ne.mpr c80
      have c80b1 : (a0_0 != 8) = true := bne_iff_ne.mpr c80
      by_cases c84 : a0_0 = 9
      ·
       rw [if_pos c84] at H
       have c84b0 : (a0_0 == 9) = true := beq_iff_eq.mpr c84
       have c84b1 : (a0_0 != 9) = false := bne_eq_false_iff_eq.mpr c84
       clear c84
       by_cases c85 : (l0_4.length : Int) = 1
       ·
        rw [if_pos c85] at H
        have c85b0 : ((l0_4.length : Int) == 1) = true := beq_iff_eq.mpr c85
        have c85b1 : ((l0_4.length : Int) != 1) = false := bne_eq_false_iff_eq.mpr c85
        clear c85
        by_cases c86 : a0_1 < 0
        ·
         rw [if_pos c86] at H
         have c86b0 : decide (a0_1 < 0) = true := decide_eq_true c86
         clear c86
         as_aux_lemma =>
          obtain rfl := Option.some.inj H
          obtain ⟨hcz87_0, hfz87_0, hcz87_1, hfz87_1, hcz87_2, hfz87_2, hcz87_3, hfz87_3, hcz87_4, hfz87_4⟩ := bkc5 BK104.out
          go_wp2
          repeat (go_quiet (fail); try go_wp2)
          go_ret
          exact ⟨tE, tG⟩
        rw [if_neg c86] at H
        have c86b0 : decide (a0_1 < 0) = false := decide_eq_false c86
        clear c86
        by_cases c88 : a0_1 > 20
        ·
         rw [if_pos c88] at H
         have c88b0 : decide (20 < a0_1) = true := decide_eq_true c88
         clear c88
         as_aux_lemma =>
          obtain rfl := Option.some.inj H
          obtain ⟨hcz89_0, hfz89_0, hcz89_1, hfz89_1, hcz89_2, hfz89_2, hcz89_3, hfz89_3, hcz89_4, hfz89_4⟩ := bkc5 BK104.out
          go_wp2
          repeat (go_quiet (fail); try go_wp2)
          go_ret
          exact ⟨tE, tG⟩
        rw [if_neg c88] at H
        have c88b0 : decide (20 < a0_1) = false := decide_eq_false c88
        clear c88
        by_cases c90 : a0_2 < (-1)
        ·
         rw [if_pos c90] at H
         have c90b0 : decide (a0_2 < (-1)) = true := decide_eq_true c90
         clear c90
         as_aux_lemma =>
          obtain rfl := Option.some.inj H
          obtain ⟨hcz91_0, hfz91_0, hcz91_1, hfz91_1, hcz91_2, hfz91_2, hcz91_3, hfz91_3, hcz91_4, hfz91_4⟩ := bkc5 BK104.out
          go_wp2
          repeat (go_quiet (fail); try go_wp2)
          go_ret
          exact ⟨tE, tG⟩
        rw [if_neg c90] at H
        have c90b0 : decide (a0_2 < (-1)) = false := decide_eq_false c90
        clear c90
        by_cases c92 : a0_2 > 20
        ·
         rw [if_pos c92] at H
         have c92b0 : decide (20 < a0_2) = true := decide_eq_true c92
         clear c92
         as_aux_lemma =>
          obtain rfl := Option.some.inj H
          obtain ⟨hcz93_0, hfz93_0, hcz93_1, hfz93_1, hcz93_2, hfz93_2, hcz93_3, hfz93_3, hcz93_4, hfz93_4⟩ := bkc5 BK104.out
          go_wp2
          repeat (go_quiet (fail); try go_wp2)
          go_ret
          exact ⟨tE, tG⟩
        rw [if_neg c92] at H
        have c92b0 : decide (20 < a0_2) = false := decide_eq_false c92
        clear c92
        by_cases c94 : a0_2 ≥ 0
        ·
         rw [if_pos c94] at H
         have c94b0 : decide (0 ≤ a0_2) = true := decide_eq_true c94
         clear c94
         by_cases c95 : a0_2 < a0_1
         ·
          rw [if_pos c95] at H
          have c95b0 : decide (a0_2 < a0_1) = true := decide_eq_true c95
          clear c95
          as_aux_lemma =>
           obtain rfl := Option.some.inj H
           obtain ⟨hcz96_0, hfz96_0, hcz96_1, hfz96_1, hcz96_2, hfz96_2, hcz96_3, hfz96_3, hcz96_4, hfz96_4⟩ := bkc5 BK104.out
           go_wp2
           repeat (go_quiet (fail); try go_wp2)
           go_ret
           exact ⟨tE, tG⟩
         rw [if_neg c95] at H
         have c95b0 : decide (a0_2 < a0_1) = false := decide_eq_false c95
         clear c95
         as_aux_lemma =>
          have H' := am H
          clear H
          obtain ⟨hcz97_0, hfz97_0, hcz97_1, hfz97_1, hcz97_2, hfz97_2, hcz97_3, hfz97_3, hcz97_4, hfz97_4⟩ := bkc5 BK104.out
          go_wp2
          repeat (go_quiet (fail); try go_wp2)
          go_meet
          case rel => exact ran3
        rw [if_neg c94] at H
        have c94b0 : decide (0 ≤ a0_2) = false := decide_eq_false c94
        clear c94
        as_aux_lemma =>
         have H' := am H
         clear H
         obtain ⟨hcz98_0, hfz98_0, hcz98_1, hfz98_1, hcz98_2, hfz98_2, hcz98_3, hfz98_3, hcz98_4, hfz98_4⟩ := bkc5 BK104.out
         go_wp2
         repeat (go_quiet (fail); try go_wp2)
         go_meet
         case rel => exact ran3
       rw [if_neg c85] at H
       have c85b0 : ((l0_4.length : Int) == 1) = false := beq_eq_false_iff_ne.mpr c85
       have c85b1 : ((l0_4.length : Int) != 1) = true := bne_iff_ne.mpr c85
       as_aux_lemma =>
        obtain rfl := Option.some.inj H
        obtain ⟨hcz99_0, hfz99_0, hcz99_1, hfz99_1, hcz99_2, hfz99_2, hcz99_3, hfz99_3, hcz99_4, hfz99_4⟩ := bkc5 BK104.out
        go_wp2
        repeat (go_quiet (fail); try go_wp2)
        go_ret
        exact ⟨tE, tG⟩
      rw [if_neg c84] at H
      have c84b0 : (a0_0 == 9) = false := beq_eq_false_iff_ne.mpr c84
      have c84b1 : (a0_0 != 9) = true := bne_iff_ne.mpr c84
      as_aux_lemma =>
       obtain rfl := Option.some.inj H
       go_wp2
       repeat (go_quiet (fail); try go_wp2)
       go_ret
       exact ⟨tE, tG⟩
   case rest =>
    clear HC35
    try clear hfz36_0
    try clear hfz36_1
    try clear hfz36_2
    try clear hfz36_3
    try clear hfz36_4
    obtain ⟨kq, x1_34, rfl, HA, HJ34, BK104, HB⟩ := hcut
    cases kq with
    | zero => exact absurd HA.out (by simp [spec_l05Right.j4])
    | succ kj34 =>
     have H := HA.out
     clear HA
     simp only [spec_l05Right.j4] at H
     have H' := am H
     clear H
     go_wp2
     repeat (go_quiet (fail); try go_wp2)
     go_loopg [1, 6] kj34 (fun kq v1 v6 w' => ∃ (x1_3 : Int) (x6_3 : Int), v1 = .int .i64 x1_3 ∧ v6 = .int .i64 x6_3 ∧ Aside0 (spec_l05Right.l1 kq x1_3 x6_3 a0_0 a0_1 a0_2 a0_3 l0_4 = some r) ∧ Aside0 (kq ≤ kj34) ∧ Aside0 (w'.heap[gb104]? = some (.cells #[.int .i64 a0_0, .int .i64 a0_1, .int .i64 a0_2, .string a0_3, (.slice A0_4 l0_4.length c0_4)] 31 (0, 0))) ∧ Aside0 (Below w.heap.size w w'))
     case atStart => exact ⟨(x1_34), (0), fs, fs, H', ⟨Nat.le_refl _⟩, ⟨tK⟩, ⟨tG⟩⟩
     case round =>
      clear H'
      try clear hfz36_0
      try clear hfz36_1
      try clear hfz36_2
      try clear hfz36_3
      try clear hfz36_4
      obtain ⟨x1_3, x6_3, rfl, rfl, HA, HK3, BK104, HB⟩ := hrel
      cases gk with
      | zero => exact absurd HA.out (by simp [spec_l05Right.l1])
      | succ k3 =>
       have H := HA.out
       clear HA
       simp only [spec_l05Right.l1] at H
       by_cases c100 : x6_3 < (l0_4.length : Int)
       ·
        rw [if_pos c100] at H
        have c100b0 : decide (x6_3 < (l0_4.length : Int)) = true := decide_eq_true c100
        clear c100
        by_cases c101 : x1_3 > 0
        ·
         rw [if_pos c101] at H
         have c101b0 : decide (0 < x1_3) = true := decide_eq_true c101
         clear c101
         by_cases c102 : 0 ≤ x6_3
         ·
          rw [if_pos c102] at H
          have c102b0 : decide (0 ≤ x6_3) = true := decide_eq_true c102
          clear c102
          replace H := Option.bind_eq_some_iff.mp H
          obtain ⟨t106, A1030, H⟩ := H
          replace H : (spec_l05Right.l1 k3 t106 (wrap64 (x6_3 + 1)) a0_0 a0_1 a0_2 a0_3 l0_4) = some r := H
          have A103 := am A1030
          clear A1030
          as_aux_lemma =>
           have H' := am H
           clear H
           obtain ⟨hcz104_0, hfz104_0, hcz104_1, hfz104_1, hcz104_2, hfz104_2, hcz104_3, hfz104_3, hcz104_4, hfz104_4⟩ := bkc5 BK104.out
           have p105 : 0 ≤ (x6_3 : Int) := od
           have q105 : x6_3 < (l0_4.length : Int) := od
           obtain ⟨ad105, A105_4, c105_4, e105, hx105_0, hx105_1, hx105_2, hx105_3, hx105_4, hl105_4, hi105_4⟩ := at_T31 HR0_4.out x6_3 p105 q105
           cases e105
           replace hx105_0 := (HB.out.cell (World.block_lt_of_cell? w _ hx105_0)).trans hx105_0
           replace hx105_1 := (HB.out.cell (World.block_lt_of_cell? w _ hx105_1)).trans hx105_1
           replace hx105_2 := (HB.out.cell (World.block_lt_of_cell? w _ hx105_2)).trans hx105_2
           replace hx105_3 := (HB.out.cell (World.block_lt_of_cell? w _ hx105_3)).trans hx105_3
           replace hx105_4 := (HB.out.cell (World.block_lt_of_cell? w _ hx105_4)).trans hx105_4
           have HR105_4 := am hi105_4
           have HC105_4 := am hl105_4
           clear hi105_4 hl105_4
           replace p105 := eq_true p105
           replace q105 := eq_true q105
           go_wp2_with (first | (go_at_call 56; (with_reducible refine (ih k3 (by have := HJ2.out; have := HJ34.out; have := HK3.out; omega) ((rd_T31 l0_4 x6_3).f0) ((rd_T31 l0_4 x6_3).f1) ((rd_T31 l0_4 x6_3).f2) ((rd_T31 l0_4 x6_3).f3) _ _ ((rd_T31 l0_4 x6_3).f4) x1_3 t106 _ ?side1 ?side2 A103.out).mono ?_); (case side1 => repeat (first | exact (Kd.C_below HR105_4.out HB.out) | (with_reducible refine Kd.C_alloc ?_ _) | (with_reducible refine Kd.C_drewN ?_ _) | (with_reducible refine Kd.C_drew ?_))); (case side2 => exact HC105_4.out); rintro e w105 ⟨rfl, hb⟩; replace BK104 := am (blk_below (g := gb104) (o := .cells #[.int .i64 a0_0, .int .i64 a0_1, .int .i64 a0_2, .string a0_3, .slice (some ad105) l0_4.length c0_4] 31 (0, 0)) tK hb); replace HB := am (below_step tG hb); (try clear hb); (try clear hb2); (try clear hk); (try clear hi)))
           repeat (go_quiet (first | (go_at_call 56; (with_reducible refine (ih k3 (by have := HJ2.out; have := HJ34.out; have := HK3.out; omega) ((rd_T31 l0_4 x6_3).f0) ((rd_T31 l0_4 x6_3).f1) ((rd_T31 l0_4 x6_3).f2) ((rd_T31 l0_4 x6_3).f3) _ _ ((rd_T31 l0_4 x6_3).f4) x1_3 t106 _ ?side1 ?side2 A103.out).mono ?_); (case side1 => repeat (first | exact (Kd.C_below HR105_4.out HB.out) | (with_reducible refine Kd.C_alloc ?_ _) | (with_reducible refine Kd.C_drewN ?_ _) | (with_reducible refine Kd.C_drew ?_))); (case side2 => exact HC105_4.out); rintro e w105 ⟨rfl, hb⟩; replace BK104 := am (blk_below (g := gb104) (o := .cells #[.int .i64 a0_0, .int .i64 a0_1, .int .i64 a0_2, .string a0_3, .slice (some ad105) l0_4.length c0_4] 31 (0, 0)) tK hb); replace HB := am (below_step tG hb); (try clear hb); (try clear hb2); (try clear hk); (try clear hi))); try go_wp2_with (first | (go_at_call 56; (with_reducible refine (ih k3 (by have := HJ2.out; have := HJ34.out; have := HK3.out; omega) ((rd_T31 l0_4 x6_3).f0) ((rd_T31 l0_4 x6_3).f1) ((rd_T31 l0_4 x6_3).f2) ((rd_T31 l0_4 x6_3).f3) _ _ ((rd_T31 l0_4 x6_3).f4) x1_3 t106 _ ?side1 ?side2 A103.out).mono ?_); (case side1 => repeat (first | exact (Kd.C_below HR105_4.out HB.out) | (with_reducible refine Kd.C_alloc ?_ _) | (with_reducible refine Kd.C_drewN ?_ _) | (with_reducible refine Kd.C_drew ?_))); (case side2 => exact HC105_4.out); rintro e w105 ⟨rfl, hb⟩; replace BK104 := am (blk_below (g := gb104) (o := .cells #[.int .i64 a0_0, .int .i64 a0_1, .int .i64 a0_2, .string a0_3, .slice (some ad105) l0_4.length c0_4] 31 (0, 0)) tK hb); replace HB := am (below_step tG hb); (try clear hb); (try clear hb2); (try clear hk); (try clear hi))))
           go_roundg k3
           case measure => have := HJ2.out; have := HJ34.out; have := HK3.out; omega
           case rel => exact ⟨(t106), (wrap64 (x6_3 + 1)), fs, fs, H', ⟨by have := HJ2.out; have := HJ34.out; have := HK3.out; omega⟩, ⟨tK⟩, ⟨tG⟩⟩
         rw [if_neg c102] at H
         exact absurd H (by simp)
        rw [if_neg c101] at H
        have c101b0 : decide (0 < x1_3) = false := decide_eq_false c101
        clear c101
        as_aux_lemma =>
         obtain rfl := Option.some.inj H
         obtain ⟨hcz106_0, hfz106_0, hcz106_1, hfz106_1, hcz106_2, hfz106_2, hcz106_3, hfz106_3, hcz106_4, hfz106_4⟩ := bkc5 BK104.out
         go_wp2
         repeat (go_quiet (fail); try go_wp2)
         go_ret
         exact ⟨tE, tG⟩
       rw [if_neg c100] at H
       have c100b0 : decide (x6_3 < (l0_4.length : Int)) = false := decide_eq_false c100
       clear c100
       as_aux_lemma =>
        obtain rfl := Option.some.inj H
        obtain ⟨hcz107_0, hfz107_0, hcz107_1, hfz107_1, hcz107_2, hfz107_2, hcz107_3, hfz107_3, hcz107_4, hfz107_4⟩ := bkc5 BK104.out
        go_wp2
        repeat (go_quiet (fail); try go_wp2)
        go_ret
        exact ⟨tE, tG⟩

end Go.Proofs.Ytlpabbcgichaoaa.PFnExactFind
