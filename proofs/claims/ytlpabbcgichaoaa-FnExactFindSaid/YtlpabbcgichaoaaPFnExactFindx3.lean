import Derived.Test.YtlpabbcgichaoaaPFnExactFindx0
import Derived.Test.YtlpabbcgichaoaaPFnExactFindx1
import Derived.Test.YtlpabbcgichaoaaPFnExactFindx2
import Derived.Test.YtlpabbcgichaoaaWWords
namespace Go.Proofs.Ytlpabbcgichaoaa.PFnExactFind
open Go.RowKit Go.Proofs.YtlpabbcgichaoaaW.PrintWords Go.Proofs.YtlpabbcgichaoaaW.PrintLast Go.Proofs.YtlpabbcgichaoaaW.PrintMore
attribute [local go_sem] max2_int min2_int max_two min_two max_three min_three max_four min_four
set_option maxHeartbeats 8000000
set_option maxRecDepth 100000
set_option linter.unusedVariables false
set_option linter.unusedSimpArgs false

mutual
def spec_l05Weight.l0 : Nat → Int → Int → Int → Int → Int → ByteArray → List (S31) → Option (Int)
 | 0, _, _, _, _, _, _, _ => none
 | k + 1, x3, x4, x108000, x108001, x108002, x108003, x108004 => if x4 < (x108004.length : Int) then (if 0 ≤ x4 then ((spec_l05Weight.f k ((rd_T31 x108004 x4).f0) ((rd_T31 x108004 x4).f1) ((rd_T31 x108004 x4).f2) ((rd_T31 x108004 x4).f3) ((rd_T31 x108004 x4).f4)).bind fun t109 => (spec_l05Weight.l0 k (wrap64 (x3 + t109)) (wrap64 (x4 + 1)) x108000 x108001 x108002 x108003 x108004)) else (none)) else (if x108000 = 9 then (some (mn (wrap64 (x3 * (mx 1 (wrap64 ((mx x108001 x108002) + 1))))) 301)) else (some (mn x3 301)))
def spec_l05Weight.f : Nat → Int → Int → Int → ByteArray → List (S31) → Option (Int)
 | 0, _, _, _, _, _ => none
 | k + 1, a0_0, a0_1, a0_2, a0_3, l0_4 => spec_l05Weight.l0 k 1 0 a0_0 a0_1 a0_2 a0_3 l0_4
end
theorem spec_l05Weight.calls (k : Nat) : ∀ (a0_0 : Int) (a0_1 : Int) (a0_2 : Int) (a0_3 : ByteArray) (A0_4 : Option Addr) (c0_4 : Nat) (l0_4 : List (S31)) (r : Int) (w : World) (hr0_4 : Kd.C k31 w A0_4 l0_4.length l0_4) (hc0_4 : l0_4.length ≤ c0_4) (h : spec_l05Weight.f k a0_0 a0_1 a0_2 a0_3 l0_4 = some r),
  Calls Try.prog 57 #[.agg #[.int .i64 a0_0, .int .i64 a0_1, .int .i64 a0_2, .string a0_3, .slice A0_4 l0_4.length c0_4]] w fun e w' => e = .returned (.int .i64 r) ∧ Below w.heap.size w w' := by
 induction k using Nat.strongRecOn with
 | _ k ih =>
 intro a0_0 a0_1 a0_2 a0_3 A0_4 c0_4 l0_4 r w hr0_4 hc0_4 h
 cases k with
 | zero => exact absurd h (by simp [spec_l05Weight.f])
 | succ k =>
 simp only [spec_l05Weight.f] at h
 have hu31 := Try.underlying31
 have HR0_4 := am hr0_4
 have HC0_4 := am hc0_4
 clear hr0_4 hc0_4
 have HB := am (Below.refl w.heap.size w)
 have H : (spec_l05Weight.l0 k 1 0 a0_0 a0_1 a0_2 a0_3 l0_4) = some r := h
 clear h
 have H' := am H
 clear H
 go_enter Try.func57, Try.ntmps57
 go_wp2_with (first | ((with_reducible refine gate_dst (N := 1) rfl ?_); refine box_event ?hg (N := 1) ?hd (cs := #[.int .i64 a0_0, .int .i64 a0_1, .int .i64 a0_2, .string a0_3, .slice A0_4 l0_4.length c0_4]) (t := 31) ?hr ?_; (case hd => rfl); (case hg => rfl); (case hr => first | (go_simp; done) | (go_simp; rfl)); intro gb107 hg w2 hbox hb; have BK107 := am hbox; have GW107 := gw (w := w) hg tB; have GE107 := GW107; replace HB := am (below_step tB hb); clear hb hbox hg))
 go_loopg [3, 4] k (fun kq v3 v4 w' => ∃ (x3_1 : Int) (x4_1 : Int), v3 = .int .i64 x3_1 ∧ v4 = .int .i64 x4_1 ∧ Aside0 (spec_l05Weight.l0 kq x3_1 x4_1 a0_0 a0_1 a0_2 a0_3 l0_4 = some r) ∧ Aside0 (kq ≤ k) ∧ Aside0 (w'.heap[gb107]? = some (.cells #[.int .i64 a0_0, .int .i64 a0_1, .int .i64 a0_2, .string a0_3, (.slice A0_4 l0_4.length c0_4)] 31 (0, 0))) ∧ Aside0 (Below w.heap.size w w'))
 case atStart => exact ⟨(1), (0), fs, fs, H', ⟨Nat.le_refl _⟩, ⟨tK⟩, ⟨tG⟩⟩
 case round =>
  clear H'
  obtain ⟨x3_1, x4_1, rfl, rfl, HA, HK1, BK107, HB⟩ := hrel
  cases gk with
  | zero => exact absurd HA.out (by simp [spec_l05Weight.l0])
  | succ k1 =>
   have H := HA.out
   clear HA
   simp only [spec_l05Weight.l0] at H
   by_cases c3 : x4_1 < (l0_4.length : Int)
   ·
    rw [if_pos c3] at H
    have c3b0 : decide (x4_1 < (l0_4.length : Int)) = true := decide_eq_true c3
    clear c3
    by_cases c4 : 0 ≤ x4_1
    ·
     rw [if_pos c4] at H
     have c4b0 : decide (0 ≤ x4_1) = true := decide_eq_true c4
     clear c4
     replace H := Option.bind_eq_some_iff.mp H
     obtain ⟨t109, A50, H⟩ := H
     replace H : (spec_l05Weight.l0 k1 (wrap64 (x3_1 + t109)) (wrap64 (x4_1 + 1)) a0_0 a0_1 a0_2 a0_3 l0_4) = some r := H
     have A5 := am A50
     clear A50
     as_aux_lemma =>
      have H' := am H
      clear H
      obtain ⟨hcz6_0, hfz6_0, hcz6_1, hfz6_1, hcz6_2, hfz6_2, hcz6_3, hfz6_3, hcz6_4, hfz6_4⟩ := bkc5 BK107.out
      have p108 : 0 ≤ (x4_1 : Int) := od
      have q108 : x4_1 < (l0_4.length : Int) := od
      obtain ⟨ad108, A108_4, c108_4, e108, hx108_0, hx108_1, hx108_2, hx108_3, hx108_4, hl108_4, hi108_4⟩ := at_T31 HR0_4.out x4_1 p108 q108
      cases e108
      replace hx108_0 := (HB.out.cell (World.block_lt_of_cell? w _ hx108_0)).trans hx108_0
      replace hx108_1 := (HB.out.cell (World.block_lt_of_cell? w _ hx108_1)).trans hx108_1
      replace hx108_2 := (HB.out.cell (World.block_lt_of_cell? w _ hx108_2)).trans hx108_2
      replace hx108_3 := (HB.out.cell (World.block_lt_of_cell? w _ hx108_3)).trans hx108_3
      replace hx108_4 := (HB.out.cell (World.block_lt_of_cell? w _ hx108_4)).trans hx108_4
      have HR108_4 := am hi108_4
      have HC108_4 := am hl108_4
      clear hi108_4 hl108_4
      replace p108 := eq_true p108
      replace q108 := eq_true q108
      go_wp2_with (first | ((with_reducible refine gate_callee (f := 57) rfl ?_); refine goesL_ (some 18) rfl rfl Try.func57 (by kernel_rfl) rfl #[.agg #[.int .i64 ((rd_T31 l0_4 x4_1).f0), .int .i64 ((rd_T31 l0_4 x4_1).f1), .int .i64 ((rd_T31 l0_4 x4_1).f2), .string ((rd_T31 l0_4 x4_1).f3), .slice A108_4 ((rd_T31 l0_4 x4_1).f4).length c108_4]] rfl tA ?_; (with_reducible refine (ih k1 (by have := HK1.out; omega) ((rd_T31 l0_4 x4_1).f0) ((rd_T31 l0_4 x4_1).f1) ((rd_T31 l0_4 x4_1).f2) ((rd_T31 l0_4 x4_1).f3) _ _ ((rd_T31 l0_4 x4_1).f4) t109 _ ?side1 ?side2 A5.out).mono ?_); (case side1 => repeat (first | exact (Kd.C_below HR108_4.out HB.out) | (with_reducible refine Kd.C_alloc ?_ _) | (with_reducible refine Kd.C_drewN ?_ _) | (with_reducible refine Kd.C_drew ?_))); (case side2 => exact HC108_4.out); rintro e w7 ⟨rfl, hb⟩; refine ⟨_, rfl, ?_⟩; replace BK107 := am (blk_below (g := gb107) (o := .cells #[.int .i64 a0_0, .int .i64 a0_1, .int .i64 a0_2, .string a0_3, .slice (some ad108) l0_4.length c0_4] 31 (0, 0)) tK hb); replace HB := am (below_step tG hb); (try clear hb); (try clear hb2); (try clear hk); (try clear hi)))
      go_roundg k1
      case measure => have := HK1.out; omega
      case rel => exact ⟨(wrap64 (x3_1 + t109)), (wrap64 (x4_1 + 1)), fs, fs, H', ⟨by have := HK1.out; omega⟩, ⟨tK⟩, ⟨tG⟩⟩
    rw [if_neg c4] at H
    exact absurd H (by simp)
   rw [if_neg c3] at H
   have c3b0 : decide (x4_1 < (l0_4.length : Int)) = false := decide_eq_false c3
   clear c3
   by_cases c8 : a0_0 = 9
   ·
    rw [if_pos c8] at H
    have c8b0 : (a0_0 == 9) = true := beq_iff_eq.mpr c8
    have c8b1 : (a0_0 != 9) = false := bne_eq_false_iff_eq.mpr c8
    clear c8
    obtain ⟨ji9, hji9⟩ : ∃ j_ : Int, (mx a0_1 a0_2) = j_ := ⟨_, rfl⟩
    replace H : (some (mn (wrap64 (x3_1 * (mx 1 (wrap64 ((ji9) + 1))))) 301)) = some r := by first | (rw [hji9] at H; exact H) | (simp only [hji9] at H ⊢; exact H)
    have hji9_ : (if a0_1 < a0_2 then a0_2 else a0_1) = ji9 := hji9
    obtain ⟨ji10, hji10⟩ : ∃ j_ : Int, (mx 1 (wrap64 ((ji9) + 1))) = j_ := ⟨_, rfl⟩
    replace H : (some (mn (wrap64 (x3_1 * (ji10))) 301)) = some r := by first | (rw [hji10] at H; exact H) | (simp only [hji10] at H ⊢; exact H)
    have hji10_ : (if 1 < (wrap64 ((ji9) + 1)) then (wrap64 ((ji9) + 1)) else 1) = ji10 := hji10
    obtain ⟨ji11, hji11⟩ : ∃ j_ : Int, (mn (wrap64 (x3_1 * (ji10))) 301) = j_ := ⟨_, rfl⟩
    replace H : (some ji11) = some r := by first | (rw [hji11] at H; exact H) | (simp only [hji11] at H ⊢; exact H)
    have hji11_ : (if 301 < (wrap64 (x3_1 * (ji10))) then 301 else (wrap64 (x3_1 * (ji10)))) = ji11 := hji11
    as_aux_lemma =>
     obtain rfl := Option.some.inj H
     obtain ⟨hcz12_0, hfz12_0, hcz12_1, hfz12_1, hcz12_2, hfz12_2, hcz12_3, hfz12_3, hcz12_4, hfz12_4⟩ := bkc5 BK107.out
     go_wp2
     go_ret
     exact ⟨by first | rfl | (simp [errW_none, errW_some] <;> rfl) | (simp only [← hji9, ← hji10, ← hji11]; first | rfl | (simp [errW_none, errW_some] <;> rfl)) | (simp [*, errW_none, errW_some] <;> rfl), tG⟩
   rw [if_neg c8] at H
   have c8b0 : (a0_0 == 9) = false := beq_eq_false_iff_ne.mpr c8
   have c8b1 : (a0_0 != 9) = true := bne_iff_ne.mpr c8
   obtain ⟨ji13, hji13⟩ : ∃ j_ : Int, (mn x3_1 301) = j_ := ⟨_, rfl⟩
   replace H : (some ji13) = some r := by first | (rw [hji13] at H; exact H) | (simp only [hji13] at H ⊢; exact H)
   have hji13_ : (if 301 < x3_1 then 301 else x3_1) = ji13 := hji13
   as_aux_lemma =>
    obtain rfl := Option.some.inj H
    obtain ⟨hcz14_0, hfz14_0, hcz14_1, hfz14_1, hcz14_2, hfz14_2, hcz14_3, hfz14_3, hcz14_4, hfz14_4⟩ := bkc5 BK107.out
    go_wp2
    go_ret
    exact ⟨by first | rfl | (simp [errW_none, errW_some] <;> rfl) | (simp only [← hji13]; first | rfl | (simp [errW_none, errW_some] <;> rfl)) | (simp [*, errW_none, errW_some] <;> rfl), tG⟩

def spec_RxOK.f (k : Nat) (a0_0 : Int) (a0_1 : Int) (a0_2 : Int) (a0_3 : ByteArray) (l0_4 : List (S31)) : Option (Bool) := (spec_l05Left.f k a0_0 a0_1 a0_2 a0_3 l0_4 120).bind fun t111 => (if t111 ≥ 0 then ((spec_l05Right.f k a0_0 a0_1 a0_2 a0_3 l0_4 1).bind fun t112 => (if t112 > 0 then ((spec_l05Weight.f k a0_0 a0_1 a0_2 a0_3 l0_4).bind fun t113 => (some (decide (t113 ≤ 300)))) else (some false))) else (some false))
theorem spec_RxOK.calls (k : Nat) (a0_0 : Int) (a0_1 : Int) (a0_2 : Int) (a0_3 : ByteArray) (A0_4 : Option Addr) (c0_4 : Nat) (l0_4 : List (S31)) (r : Bool) (w : World) (hr0_4 : Kd.C k31 w A0_4 l0_4.length l0_4) (hc0_4 : l0_4.length ≤ c0_4) (h : spec_RxOK.f k a0_0 a0_1 a0_2 a0_3 l0_4 = some r) :
  Calls Try.prog 39 #[.agg #[.int .i64 a0_0, .int .i64 a0_1, .int .i64 a0_2, .string a0_3, .slice A0_4 l0_4.length c0_4]] w fun e w' => e = .returned (.bool r) ∧ Below w.heap.size w w' := by
 have hu31 := Try.underlying31
 have HR0_4 := am hr0_4
 have HC0_4 := am hc0_4
 clear hr0_4 hc0_4
 have HB := am (Below.refl w.heap.size w)
 have H : ((spec_l05Left.f k a0_0 a0_1 a0_2 a0_3 l0_4 120).bind fun t111 => (if t111 ≥ 0 then ((spec_l05Right.f k a0_0 a0_1 a0_2 a0_3 l0_4 1).bind fun t112 => (if t112 > 0 then ((spec_l05Weight.f k a0_0 a0_1 a0_2 a0_3 l0_4).bind fun t113 => (some (decide (t113 ≤ 300)))) else (some false))) else (some false))) = some r := h
 clear h
 replace H := Option.bind_eq_some_iff.mp H
 obtain ⟨t111, A20, H⟩ := H
 replace H : (if t111 ≥ 0 then ((spec_l05Right.f k a0_0 a0_1 a0_2 a0_3 l0_4 1).bind fun t112 => (if t112 > 0 then ((spec_l05Weight.f k a0_0 a0_1 a0_2 a0_3 l0_4).bind fun t113 => (some (decide (t113 ≤ 300)))) else (some false))) else (some false)) = some r := H
 have A2 := am A20
 clear A20
 by_cases c3 : t111 ≥ 0
 ·
  rw [if_pos c3] at H
  have c3b0 : decide (0 ≤ t111) = true := decide_eq_true c3
  clear c3
  replace H := Option.bind_eq_some_iff.mp H
  obtain ⟨t112, A40, H⟩ := H
  replace H : (if t112 > 0 then ((spec_l05Weight.f k a0_0 a0_1 a0_2 a0_3 l0_4).bind fun t113 => (some (decide (t113 ≤ 300)))) else (some false)) = some r := H
  have A4 := am A40
  clear A40
  by_cases c5 : t112 > 0
  ·
   rw [if_pos c5] at H
   have c5b0 : decide (0 < t112) = true := decide_eq_true c5
   clear c5
   replace H := Option.bind_eq_some_iff.mp H
   obtain ⟨t113, A60, H⟩ := H
   replace H : (some (decide (t113 ≤ 300))) = some r := H
   have A6 := am A60
   clear A60
   as_aux_lemma =>
    obtain rfl := Option.some.inj H
    go_enter Try.func39, Try.ntmps39
    go_wp2_with (first | ((with_reducible refine gate_dst (N := 1) rfl ?_); refine box_event ?hg (N := 1) ?hd (cs := #[.int .i64 a0_0, .int .i64 a0_1, .int .i64 a0_2, .string a0_3, .slice A0_4 l0_4.length c0_4]) (t := 31) ?hr ?_; (case hd => rfl); (case hg => rfl); (case hr => first | (go_simp; done) | (go_simp; rfl)); intro gb110 hg w7 hbox hb; have BK110 := am hbox; have GW110 := gw (w := w) hg tB; have GE110 := GW110; replace HB := am (below_step tB hb); clear hb hbox hg; have hcz8_0 : w7.cell? ⟨gb110, 0, none⟩ = some (.int .i64 a0_0) := (blk_cell BK110.out 0).trans rfl; have hcz8_1 : w7.cell? ⟨gb110, 1, none⟩ = some (.int .i64 a0_1) := (blk_cell BK110.out 1).trans rfl; have hcz8_2 : w7.cell? ⟨gb110, 2, none⟩ = some (.int .i64 a0_2) := (blk_cell BK110.out 2).trans rfl; have hcz8_3 : w7.cell? ⟨gb110, 3, none⟩ = some (.string a0_3) := (blk_cell BK110.out 3).trans rfl; have hcz8_4 : w7.cell? ⟨gb110, 4, none⟩ = some (.slice A0_4 l0_4.length c0_4) := (blk_cell BK110.out 4).trans rfl; have hfz8_0 := blk_frozen BK110.out 0; have hfz8_1 := blk_frozen BK110.out 1; have hfz8_2 := blk_frozen BK110.out 2; have hfz8_3 := blk_frozen BK110.out 3; have hfz8_4 := blk_frozen BK110.out 4) | ((with_reducible refine gate_callee (f := 55) rfl ?_); refine goesL_ (some 4) rfl rfl Try.func55 (by kernel_rfl) rfl #[.agg #[.int .i64 a0_0, .int .i64 a0_1, .int .i64 a0_2, .string a0_3, .slice A0_4 l0_4.length c0_4], .int .i64 120] rfl tA ?_; (with_reducible refine (spec_l05Left.calls k a0_0 a0_1 a0_2 a0_3 _ _ l0_4 120 t111 _ ?side1 ?side2 A2.out).mono ?_); (case side1 => repeat (first | exact (Kd.C_below HR0_4.out HB.out) | (with_reducible refine Kd.C_alloc ?_ _) | (with_reducible refine Kd.C_drewN ?_ _) | (with_reducible refine Kd.C_drew ?_))); (case side2 => exact HC0_4.out); rintro e w9 ⟨rfl, hb⟩; refine ⟨_, rfl, ?_⟩; replace BK110 := am (blk_below (g := gb110) (o := .cells #[.int .i64 a0_0, .int .i64 a0_1, .int .i64 a0_2, .string a0_3, .slice A0_4 l0_4.length c0_4] 31 (0, 0)) tK hb); replace HB := am (below_step tG hb); (try clear hb); (try clear hb2); (try clear hk); (try clear hi); have hcz10_0 : w9.cell? ⟨gb110, 0, none⟩ = some (.int .i64 a0_0) := (blk_cell BK110.out 0).trans rfl; have hcz10_1 : w9.cell? ⟨gb110, 1, none⟩ = some (.int .i64 a0_1) := (blk_cell BK110.out 1).trans rfl; have hcz10_2 : w9.cell? ⟨gb110, 2, none⟩ = some (.int .i64 a0_2) := (blk_cell BK110.out 2).trans rfl; have hcz10_3 : w9.cell? ⟨gb110, 3, none⟩ = some (.string a0_3) := (blk_cell BK110.out 3).trans rfl; have hcz10_4 : w9.cell? ⟨gb110, 4, none⟩ = some (.slice A0_4 l0_4.length c0_4) := (blk_cell BK110.out 4).trans rfl; have hfz10_0 := blk_frozen BK110.out 0; have hfz10_1 := blk_frozen BK110.out 1; have hfz10_2 := blk_frozen BK110.out 2; have hfz10_3 := blk_frozen BK110.out 3; have hfz10_4 := blk_frozen BK110.out 4) | (go_at_call 56; (with_reducible refine (spec_l05Right.calls k a0_0 a0_1 a0_2 a0_3 _ _ l0_4 1 t112 _ ?side1 ?side2 A4.out).mono ?_); (case side1 => repeat (first | exact (Kd.C_below HR0_4.out HB.out) | (with_reducible refine Kd.C_alloc ?_ _) | (with_reducible refine Kd.C_drewN ?_ _) | (with_reducible refine Kd.C_drew ?_))); (case side2 => exact HC0_4.out); rintro e w11 ⟨rfl, hb⟩; replace BK110 := am (blk_below (g := gb110) (o := .cells #[.int .i64 a0_0, .int .i64 a0_1, .int .i64 a0_2, .string a0_3, .slice A0_4 l0_4.length c0_4] 31 (0, 0)) tK hb); replace HB := am (below_step tG hb); (try clear hb); (try clear hb2); (try clear hk); (try clear hi); have hcz12_0 : w11.cell? ⟨gb110, 0, none⟩ = some (.int .i64 a0_0) := (blk_cell BK110.out 0).trans rfl; have hcz12_1 : w11.cell? ⟨gb110, 1, none⟩ = some (.int .i64 a0_1) := (blk_cell BK110.out 1).trans rfl; have hcz12_2 : w11.cell? ⟨gb110, 2, none⟩ = some (.int .i64 a0_2) := (blk_cell BK110.out 2).trans rfl; have hcz12_3 : w11.cell? ⟨gb110, 3, none⟩ = some (.string a0_3) := (blk_cell BK110.out 3).trans rfl; have hcz12_4 : w11.cell? ⟨gb110, 4, none⟩ = some (.slice A0_4 l0_4.length c0_4) := (blk_cell BK110.out 4).trans rfl; have hfz12_0 := blk_frozen BK110.out 0; have hfz12_1 := blk_frozen BK110.out 1; have hfz12_2 := blk_frozen BK110.out 2; have hfz12_3 := blk_frozen BK110.out 3; have hfz12_4 := blk_frozen BK110.out 4) | (go_at_call 57; (with_reducible refine (spec_l05Weight.calls k a0_0 a0_1 a0_2 a0_3 _ _ l0_4 t113 _ ?side1 ?side2 A6.out).mono ?_); (case side1 => repeat (first | exact (Kd.C_below HR0_4.out HB.out) | (with_reducible refine Kd.C_alloc ?_ _) | (with_reducible refine Kd.C_drewN ?_ _) | (with_reducible refine Kd.C_drew ?_))); (case side2 => exact HC0_4.out); rintro e w13 ⟨rfl, hb⟩; replace BK110 := am (blk_below (g := gb110) (o := .cells #[.int .i64 a0_0, .int .i64 a0_1, .int .i64 a0_2, .string a0_3, .slice A0_4 l0_4.length c0_4] 31 (0, 0)) tK hb); replace HB := am (below_step tG hb); (try clear hb); (try clear hb2); (try clear hk); (try clear hi)))
    go_ret
    exact ⟨tE, tG⟩
  rw [if_neg c5] at H
  have c5b0 : decide (0 < t112) = false := decide_eq_false c5
  clear c5
  as_aux_lemma =>
   obtain rfl := Option.some.inj H
   go_enter Try.func39, Try.ntmps39
   go_wp2_with (first | ((with_reducible refine gate_dst (N := 1) rfl ?_); refine box_event ?hg (N := 1) ?hd (cs := #[.int .i64 a0_0, .int .i64 a0_1, .int .i64 a0_2, .string a0_3, .slice A0_4 l0_4.length c0_4]) (t := 31) ?hr ?_; (case hd => rfl); (case hg => rfl); (case hr => first | (go_simp; done) | (go_simp; rfl)); intro gb110 hg w14 hbox hb; have BK110 := am hbox; have GW110 := gw (w := w) hg tB; have GE110 := GW110; replace HB := am (below_step tB hb); clear hb hbox hg; have hcz15_0 : w14.cell? ⟨gb110, 0, none⟩ = some (.int .i64 a0_0) := (blk_cell BK110.out 0).trans rfl; have hcz15_1 : w14.cell? ⟨gb110, 1, none⟩ = some (.int .i64 a0_1) := (blk_cell BK110.out 1).trans rfl; have hcz15_2 : w14.cell? ⟨gb110, 2, none⟩ = some (.int .i64 a0_2) := (blk_cell BK110.out 2).trans rfl; have hcz15_3 : w14.cell? ⟨gb110, 3, none⟩ = some (.string a0_3) := (blk_cell BK110.out 3).trans rfl; have hcz15_4 : w14.cell? ⟨gb110, 4, none⟩ = some (.slice A0_4 l0_4.length c0_4) := (blk_cell BK110.out 4).trans rfl; have hfz15_0 := blk_frozen BK110.out 0; have hfz15_1 := blk_frozen BK110.out 1; have hfz15_2 := blk_frozen BK110.out 2; have hfz15_3 := blk_frozen BK110.out 3; have hfz15_4 := blk_frozen BK110.out 4) | ((with_reducible refine gate_callee (f := 55) rfl ?_); refine goesL_ (some 4) rfl rfl Try.func55 (by kernel_rfl) rfl #[.agg #[.int .i64 a0_0, .int .i64 a0_1, .int .i64 a0_2, .string a0_3, .slice A0_4 l0_4.length c0_4], .int .i64 120] rfl tA ?_; (with_reducible refine (spec_l05Left.calls k a0_0 a0_1 a0_2 a0_3 _ _ l0_4 120 t111 _ ?side1 ?side2 A2.out).mono ?_); (case side1 => repeat (first | exact (Kd.C_below HR0_4.out HB.out) | (with_reducible refine Kd.C_alloc ?_ _) | (with_reducible refine Kd.C_drewN ?_ _) | (with_reducible refine Kd.C_drew ?_))); (case side2 => exact HC0_4.out); rintro e w16 ⟨rfl, hb⟩; refine ⟨_, rfl, ?_⟩; replace BK110 := am (blk_below (g := gb110) (o := .cells #[.int .i64 a0_0, .int .i64 a0_1, .int .i64 a0_2, .string a0_3, .slice A0_4 l0_4.length c0_4] 31 (0, 0)) tK hb); replace HB := am (below_step tG hb); (try clear hb); (try clear hb2); (try clear hk); (try clear hi); have hcz17_0 : w16.cell? ⟨gb110, 0, none⟩ = some (.int .i64 a0_0) := (blk_cell BK110.out 0).trans rfl; have hcz17_1 : w16.cell? ⟨gb110, 1, none⟩ = some (.int .i64 a0_1) := (blk_cell BK110.out 1).trans rfl; have hcz17_2 : w16.cell? ⟨gb110, 2, none⟩ = some (.int .i64 a0_2) := (blk_cell BK110.out 2).trans rfl; have hcz17_3 : w16.cell? ⟨gb110, 3, none⟩ = some (.string a0_3) := (blk_cell BK110.out 3).trans rfl; have hcz17_4 : w16.cell? ⟨gb110, 4, none⟩ = some (.slice A0_4 l0_4.length c0_4) := (blk_cell BK110.out 4).trans rfl; have hfz17_0 := blk_frozen BK110.out 0; have hfz17_1 := blk_frozen BK110.out 1; have hfz17_2 := blk_frozen BK110.out 2; have hfz17_3 := blk_frozen BK110.out 3; have hfz17_4 := blk_frozen BK110.out 4) | (go_at_call 56; (with_reducible refine (spec_l05Right.calls k a0_0 a0_1 a0_2 a0_3 _ _ l0_4 1 t112 _ ?side1 ?side2 A4.out).mono ?_); (case side1 => repeat (first | exact (Kd.C_below HR0_4.out HB.out) | (with_reducible refine Kd.C_alloc ?_ _) | (with_reducible refine Kd.C_drewN ?_ _) | (with_reducible refine Kd.C_drew ?_))); (case side2 => exact HC0_4.out); rintro e w18 ⟨rfl, hb⟩; replace BK110 := am (blk_below (g := gb110) (o := .cells #[.int .i64 a0_0, .int .i64 a0_1, .int .i64 a0_2, .string a0_3, .slice A0_4 l0_4.length c0_4] 31 (0, 0)) tK hb); replace HB := am (below_step tG hb); (try clear hb); (try clear hb2); (try clear hk); (try clear hi)))
   go_ret
   exact ⟨tE, tG⟩
 rw [if_neg c3] at H
 have c3b0 : decide (0 ≤ t111) = false := decide_eq_false c3
 clear c3
 as_aux_lemma =>
  obtain rfl := Option.some.inj H
  go_enter Try.func39, Try.ntmps39
  go_wp2_with (first | ((with_reducible refine gate_dst (N := 1) rfl ?_); refine box_event ?hg (N := 1) ?hd (cs := #[.int .i64 a0_0, .int .i64 a0_1, .int .i64 a0_2, .string a0_3, .slice A0_4 l0_4.length c0_4]) (t := 31) ?hr ?_; (case hd => rfl); (case hg => rfl); (case hr => first | (go_simp; done) | (go_simp; rfl)); intro gb110 hg w19 hbox hb; have BK110 := am hbox; have GW110 := gw (w := w) hg tB; have GE110 := GW110; replace HB := am (below_step tB hb); clear hb hbox hg; have hcz20_0 : w19.cell? ⟨gb110, 0, none⟩ = some (.int .i64 a0_0) := (blk_cell BK110.out 0).trans rfl; have hcz20_1 : w19.cell? ⟨gb110, 1, none⟩ = some (.int .i64 a0_1) := (blk_cell BK110.out 1).trans rfl; have hcz20_2 : w19.cell? ⟨gb110, 2, none⟩ = some (.int .i64 a0_2) := (blk_cell BK110.out 2).trans rfl; have hcz20_3 : w19.cell? ⟨gb110, 3, none⟩ = some (.string a0_3) := (blk_cell BK110.out 3).trans rfl; have hcz20_4 : w19.cell? ⟨gb110, 4, none⟩ = some (.slice A0_4 l0_4.length c0_4) := (blk_cell BK110.out 4).trans rfl; have hfz20_0 := blk_frozen BK110.out 0; have hfz20_1 := blk_frozen BK110.out 1; have hfz20_2 := blk_frozen BK110.out 2; have hfz20_3 := blk_frozen BK110.out 3; have hfz20_4 := blk_frozen BK110.out 4) | ((with_reducible refine gate_callee (f := 55) rfl ?_); refine goesL_ (some 4) rfl rfl Try.func55 (by kernel_rfl) rfl #[.agg #[.int .i64 a0_0, .int .i64 a0_1, .int .i64 a0_2, .string a0_3, .slice A0_4 l0_4.length c0_4], .int .i64 120] rfl tA ?_; (with_reducible refine (spec_l05Left.calls k a0_0 a0_1 a0_2 a0_3 _ _ l0_4 120 t111 _ ?side1 ?side2 A2.out).mono ?_); (case side1 => repeat (first | exact (Kd.C_below HR0_4.out HB.out) | (with_reducible refine Kd.C_alloc ?_ _) | (with_reducible refine Kd.C_drewN ?_ _) | (with_reducible refine Kd.C_drew ?_))); (case side2 => exact HC0_4.out); rintro e w21 ⟨rfl, hb⟩; refine ⟨_, rfl, ?_⟩; replace BK110 := am (blk_below (g := gb110) (o := .cells #[.int .i64 a0_0, .int .i64 a0_1, .int .i64 a0_2, .string a0_3, .slice A0_4 l0_4.length c0_4] 31 (0, 0)) tK hb); replace HB := am (below_step tG hb); (try clear hb); (try clear hb2); (try clear hk); (try clear hi)))
  go_ret
  exact ⟨tE, tG⟩

def spec_l06Code.f (k : Nat) (a0_0 : Int) (a0_1 : Int) (a0_2 : Int) (a0_3 : ByteArray) (l0_4 : List (S31)) (a1 : ByteArray) : Option (Int) := if (a1.size : Int) > 65536 then (some 2) else ((spec_RxOK.f k a0_0 a0_1 a0_2 a0_3 l0_4).bind fun t115 => (if t115 = true then (if (a1.size : Int) > 120 then (some 14) else (some 0)) else (some 1)))
theorem spec_l06Code.calls (k : Nat) (a0_0 : Int) (a0_1 : Int) (a0_2 : Int) (a0_3 : ByteArray) (A0_4 : Option Addr) (c0_4 : Nat) (l0_4 : List (S31)) (a1 : ByteArray) (r : Int) (w : World) (hr0_4 : Kd.C k31 w A0_4 l0_4.length l0_4) (hc0_4 : l0_4.length ≤ c0_4) (h : spec_l06Code.f k a0_0 a0_1 a0_2 a0_3 l0_4 a1 = some r) :
  Calls Try.prog 23 #[.agg #[.int .i64 a0_0, .int .i64 a0_1, .int .i64 a0_2, .string a0_3, .slice A0_4 l0_4.length c0_4], .string a1] w fun e w' => e = .returned (.int .i64 r) ∧ Below w.heap.size w w' := by
 have hu31 := Try.underlying31
 have HR0_4 := am hr0_4
 have HC0_4 := am hc0_4
 clear hr0_4 hc0_4
 have HB := am (Below.refl w.heap.size w)
 have H : (if (a1.size : Int) > 65536 then (some 2) else ((spec_RxOK.f k a0_0 a0_1 a0_2 a0_3 l0_4).bind fun t115 => (if t115 = true then (if (a1.size : Int) > 120 then (some 14) else (some 0)) else (some 1)))) = some r := h
 clear h
 by_cases c3 : (a1.size : Int) > 65536
 ·
  rw [if_pos c3] at H
  have c3b0 : decide (65536 < (a1.size : Int)) = true := decide_eq_true c3
  have c3b1 : decide (65536 < a1.size) = true := decide_eq_true (by omega)
  clear c3
  as_aux_lemma =>
   obtain rfl := Option.some.inj H
   go_enter Try.func23, Try.ntmps23
   go_wp2_with (first | ((with_reducible refine gate_dst (N := 2) rfl ?_); refine box_event ?hg (N := 2) ?hd (cs := #[.int .i64 a0_0, .int .i64 a0_1, .int .i64 a0_2, .string a0_3, .slice A0_4 l0_4.length c0_4]) (t := 31) ?hr ?_; (case hd => rfl); (case hg => rfl); (case hr => first | (go_simp; done) | (go_simp; rfl)); intro gb114 hg w4 hbox hb; have BK114 := am hbox; have GW114 := gw (w := w) hg tB; have GE114 := GW114; replace HB := am (below_step tB hb); clear hb hbox hg))
   go_ret
   exact ⟨tE, tG⟩
 rw [if_neg c3] at H
 have c3b0 : decide (65536 < (a1.size : Int)) = false := decide_eq_false c3
 have c3b1 : decide (65536 < a1.size) = false := decide_eq_false (by omega)
 clear c3
 replace H := Option.bind_eq_some_iff.mp H
 obtain ⟨t115, A50, H⟩ := H
 replace H : (if t115 = true then (if (a1.size : Int) > 120 then (some 14) else (some 0)) else (some 1)) = some r := H
 have A5 := am A50
 clear A50
 by_cases c6 : t115 = true
 ·
  subst c6
  have H1 : (if (a1.size : Int) > 120 then (some 14) else (some 0)) = some r := by rw [if_pos rfl] at H; exact H
  clear H
  have H := H1
  clear H1
  by_cases c7 : (a1.size : Int) > 120
  ·
   rw [if_pos c7] at H
   have c7b0 : decide (120 < (a1.size : Int)) = true := decide_eq_true c7
   have c7b1 : decide (120 < a1.size) = true := decide_eq_true (by omega)
   clear c7
   as_aux_lemma =>
    obtain rfl := Option.some.inj H
    go_enter Try.func23, Try.ntmps23
    go_wp2_with (first | ((with_reducible refine gate_dst (N := 2) rfl ?_); refine box_event ?hg (N := 2) ?hd (cs := #[.int .i64 a0_0, .int .i64 a0_1, .int .i64 a0_2, .string a0_3, .slice A0_4 l0_4.length c0_4]) (t := 31) ?hr ?_; (case hd => rfl); (case hg => rfl); (case hr => first | (go_simp; done) | (go_simp; rfl)); intro gb114 hg w8 hbox hb; have BK114 := am hbox; have GW114 := gw (w := w) hg tB; have GE114 := GW114; replace HB := am (below_step tB hb); clear hb hbox hg; have hcz9_0 : w8.cell? ⟨gb114, 0, none⟩ = some (.int .i64 a0_0) := (blk_cell BK114.out 0).trans rfl; have hcz9_1 : w8.cell? ⟨gb114, 1, none⟩ = some (.int .i64 a0_1) := (blk_cell BK114.out 1).trans rfl; have hcz9_2 : w8.cell? ⟨gb114, 2, none⟩ = some (.int .i64 a0_2) := (blk_cell BK114.out 2).trans rfl; have hcz9_3 : w8.cell? ⟨gb114, 3, none⟩ = some (.string a0_3) := (blk_cell BK114.out 3).trans rfl; have hcz9_4 : w8.cell? ⟨gb114, 4, none⟩ = some (.slice A0_4 l0_4.length c0_4) := (blk_cell BK114.out 4).trans rfl; have hfz9_0 := blk_frozen BK114.out 0; have hfz9_1 := blk_frozen BK114.out 1; have hfz9_2 := blk_frozen BK114.out 2; have hfz9_3 := blk_frozen BK114.out 3; have hfz9_4 := blk_frozen BK114.out 4) | ((with_reducible refine gate_callee (f := 39) rfl ?_); refine goesL_ (some 9) rfl rfl Try.func39 (by kernel_rfl) rfl #[.agg #[.int .i64 a0_0, .int .i64 a0_1, .int .i64 a0_2, .string a0_3, .slice A0_4 l0_4.length c0_4]] rfl tA ?_; (with_reducible refine (spec_RxOK.calls k a0_0 a0_1 a0_2 a0_3 _ _ l0_4 true _ ?side1 ?side2 A5.out).mono ?_); (case side1 => repeat (first | exact (Kd.C_below HR0_4.out HB.out) | (with_reducible refine Kd.C_alloc ?_ _) | (with_reducible refine Kd.C_drewN ?_ _) | (with_reducible refine Kd.C_drew ?_))); (case side2 => exact HC0_4.out); rintro e w10 ⟨rfl, hb⟩; refine ⟨_, rfl, ?_⟩; replace BK114 := am (blk_below (g := gb114) (o := .cells #[.int .i64 a0_0, .int .i64 a0_1, .int .i64 a0_2, .string a0_3, .slice A0_4 l0_4.length c0_4] 31 (0, 0)) tK hb); replace HB := am (below_step tG hb); (try clear hb); (try clear hb2); (try clear hk); (try clear hi)))
    go_ret
    exact ⟨tE, tG⟩
  rw [if_neg c7] at H
  have c7b0 : decide (120 < (a1.size : Int)) = false := decide_eq_false c7
  have c7b1 : decide (120 < a1.size) = false := decide_eq_false (by omega)
  clear c7
  as_aux_lemma =>
   obtain rfl := Option.some.inj H
   go_enter Try.func23, Try.ntmps23
   go_wp2_with (first | ((with_reducible refine gate_dst (N := 2) rfl ?_); refine box_event ?hg (N := 2) ?hd (cs := #[.int .i64 a0_0, .int .i64 a0_1, .int .i64 a0_2, .string a0_3, .slice A0_4 l0_4.length c0_4]) (t := 31) ?hr ?_; (case hd => rfl); (case hg => rfl); (case hr => first | (go_simp; done) | (go_simp; rfl)); intro gb114 hg w11 hbox hb; have BK114 := am hbox; have GW114 := gw (w := w) hg tB; have GE114 := GW114; replace HB := am (below_step tB hb); clear hb hbox hg; have hcz12_0 : w11.cell? ⟨gb114, 0, none⟩ = some (.int .i64 a0_0) := (blk_cell BK114.out 0).trans rfl; have hcz12_1 : w11.cell? ⟨gb114, 1, none⟩ = some (.int .i64 a0_1) := (blk_cell BK114.out 1).trans rfl; have hcz12_2 : w11.cell? ⟨gb114, 2, none⟩ = some (.int .i64 a0_2) := (blk_cell BK114.out 2).trans rfl; have hcz12_3 : w11.cell? ⟨gb114, 3, none⟩ = some (.string a0_3) := (blk_cell BK114.out 3).trans rfl; have hcz12_4 : w11.cell? ⟨gb114, 4, none⟩ = some (.slice A0_4 l0_4.length c0_4) := (blk_cell BK114.out 4).trans rfl; have hfz12_0 := blk_frozen BK114.out 0; have hfz12_1 := blk_frozen BK114.out 1; have hfz12_2 := blk_frozen BK114.out 2; have hfz12_3 := blk_frozen BK114.out 3; have hfz12_4 := blk_frozen BK114.out 4) | ((with_reducible refine gate_callee (f := 39) rfl ?_); refine goesL_ (some 9) rfl rfl Try.func39 (by kernel_rfl) rfl #[.agg #[.int .i64 a0_0, .int .i64 a0_1, .int .i64 a0_2, .string a0_3, .slice A0_4 l0_4.length c0_4]] rfl tA ?_; (with_reducible refine (spec_RxOK.calls k a0_0 a0_1 a0_2 a0_3 _ _ l0_4 true _ ?side1 ?side2 A5.out).mono ?_); (case side1 => repeat (first | exact (Kd.C_below HR0_4.out HB.out) | (with_reducible refine Kd.C_alloc ?_ _) | (with_reducible refine Kd.C_drewN ?_ _) | (with_reducible refine Kd.C_drew ?_))); (case side2 => exact HC0_4.out); rintro e w13 ⟨rfl, hb⟩; refine ⟨_, rfl, ?_⟩; replace BK114 := am (blk_below (g := gb114) (o := .cells #[.int .i64 a0_0, .int .i64 a0_1, .int .i64 a0_2, .string a0_3, .slice A0_4 l0_4.length c0_4] 31 (0, 0)) tK hb); replace HB := am (below_step tG hb); (try clear hb); (try clear hb2); (try clear hk); (try clear hi)))
   go_ret
   exact ⟨tE, tG⟩
 replace c6 := Bool.eq_false_iff.mpr c6
 subst c6
 have H1 : (some 1) = some r := by rw [if_neg (show ¬ (false = true) by decide)] at H; exact H
 clear H
 have H := H1
 clear H1
 as_aux_lemma =>
  obtain rfl := Option.some.inj H
  go_enter Try.func23, Try.ntmps23
  go_wp2_with (first | ((with_reducible refine gate_dst (N := 2) rfl ?_); refine box_event ?hg (N := 2) ?hd (cs := #[.int .i64 a0_0, .int .i64 a0_1, .int .i64 a0_2, .string a0_3, .slice A0_4 l0_4.length c0_4]) (t := 31) ?hr ?_; (case hd => rfl); (case hg => rfl); (case hr => first | (go_simp; done) | (go_simp; rfl)); intro gb114 hg w14 hbox hb; have BK114 := am hbox; have GW114 := gw (w := w) hg tB; have GE114 := GW114; replace HB := am (below_step tB hb); clear hb hbox hg; have hcz15_0 : w14.cell? ⟨gb114, 0, none⟩ = some (.int .i64 a0_0) := (blk_cell BK114.out 0).trans rfl; have hcz15_1 : w14.cell? ⟨gb114, 1, none⟩ = some (.int .i64 a0_1) := (blk_cell BK114.out 1).trans rfl; have hcz15_2 : w14.cell? ⟨gb114, 2, none⟩ = some (.int .i64 a0_2) := (blk_cell BK114.out 2).trans rfl; have hcz15_3 : w14.cell? ⟨gb114, 3, none⟩ = some (.string a0_3) := (blk_cell BK114.out 3).trans rfl; have hcz15_4 : w14.cell? ⟨gb114, 4, none⟩ = some (.slice A0_4 l0_4.length c0_4) := (blk_cell BK114.out 4).trans rfl; have hfz15_0 := blk_frozen BK114.out 0; have hfz15_1 := blk_frozen BK114.out 1; have hfz15_2 := blk_frozen BK114.out 2; have hfz15_3 := blk_frozen BK114.out 3; have hfz15_4 := blk_frozen BK114.out 4) | ((with_reducible refine gate_callee (f := 39) rfl ?_); refine goesL_ (some 9) rfl rfl Try.func39 (by kernel_rfl) rfl #[.agg #[.int .i64 a0_0, .int .i64 a0_1, .int .i64 a0_2, .string a0_3, .slice A0_4 l0_4.length c0_4]] rfl tA ?_; (with_reducible refine (spec_RxOK.calls k a0_0 a0_1 a0_2 a0_3 _ _ l0_4 false _ ?side1 ?side2 A5.out).mono ?_); (case side1 => repeat (first | exact (Kd.C_below HR0_4.out HB.out) | (with_reducible refine Kd.C_alloc ?_ _) | (with_reducible refine Kd.C_drewN ?_ _) | (with_reducible refine Kd.C_drew ?_))); (case side2 => exact HC0_4.out); rintro e w16 ⟨rfl, hb⟩; refine ⟨_, rfl, ?_⟩; replace BK114 := am (blk_below (g := gb114) (o := .cells #[.int .i64 a0_0, .int .i64 a0_1, .int .i64 a0_2, .string a0_3, .slice A0_4 l0_4.length c0_4] 31 (0, 0)) tK hb); replace HB := am (below_step tG hb); (try clear hb); (try clear hb2); (try clear hk); (try clear hi)))
  go_ret
  exact ⟨tE, tG⟩

-- NOT PRINTED: function 61 (spec_l06Machine_add)

-- NOT PRINTED: function 62 (spec_l06Machine_both)

-- NOT PRINTED: function 48 (spec_l06Machine_make)

-- NOT PRINTED: function 36 (spec_l06Machine1)

-- NOT PRINTED: function 58 (spec_l06Machine_split)

def spec_l06In.l0 : Nat → ByteArray → Int → Int → Option (Bool)
 | 0, _, _, _ => none
 | k + 1, x0, x1, x5 => if x5 < (x0.size : Int) then (if 0 ≤ x5 then (if (bt x0 x5) = x1 then (some true) else (spec_l06In.l0 k x0 x1 (wrap64 (x5 + 1)))) else (none)) else (some false)
def spec_l06In.f (k : Nat) (a0 : ByteArray) (a1 : Int) : Option (Bool) := spec_l06In.l0 k a0 a1 0
theorem spec_l06In.calls (k : Nat) (a0 : ByteArray) (a1 : Int) (r : Bool) (w : World) (h : spec_l06In.f k a0 a1 = some r) :
  Calls Try.prog 63 #[.string a0, .int .u8 a1] w fun e w' => e = .returned (.bool r) ∧ Drawn0 w w' := by
 have H : (spec_l06In.l0 k a0 a1 0) = some r := h
 clear h
 have H' := am H
 clear H
 go_enter Try.func63, Try.ntmps63
 go_wp2
 go_loopg [5] k (fun kq v5 w' => ∃ (x5_1 : Int), v5 = .int .i64 x5_1 ∧ Aside0 (spec_l06In.l0 kq a0 a1 x5_1 = some r) ∧ Aside0 (kq ≤ k) ∧ Drawn0 w w')
 case atStart => exact ⟨(0), fs, H', ⟨Nat.le_refl _⟩, dr⟩
 case round =>
  clear H'
  obtain ⟨x5_1, rfl, HA, HK1, ⟨m1, rfl⟩⟩ := hrel
  cases gk with
  | zero => exact absurd HA.out (by simp [spec_l06In.l0])
  | succ k1 =>
   have H := HA.out
   clear HA
   simp only [spec_l06In.l0] at H
   by_cases c3 : x5_1 < (a0.size : Int)
   ·
    rw [if_pos c3] at H
    have c3b0 : decide (x5_1 < (a0.size : Int)) = true := decide_eq_true c3
    clear c3
    by_cases c4 : 0 ≤ x5_1
    ·
     rw [if_pos c4] at H
     have c4b0 : decide (0 ≤ x5_1) = true := decide_eq_true c4
     clear c4
     by_cases c6 : (bt a0 x5_1) = a1
     ·
      rw [if_pos c6] at H
      have c6b0 : ((bt a0 x5_1) == a1) = true := beq_iff_eq.mpr c6
      have c6b1 : ((bt a0 x5_1) != a1) = false := bne_eq_false_iff_eq.mpr c6
      clear c6
      as_aux_lemma =>
       obtain rfl := Option.some.inj H
       have p5 : 0 ≤ (x5_1 : Int) := od
       have q5 : x5_1 < (a0.size : Int) := od
       have hx5 := bt_at a0 x5_1
       replace p5 := eq_true p5
       replace q5 := eq_true q5
       go_wp2
       go_ret
       exact ⟨by first | rfl | (simp; done) | (simp [*]; done), dr⟩
     rw [if_neg c6] at H
     have c6b0 : ((bt a0 x5_1) == a1) = false := beq_eq_false_iff_ne.mpr c6
     have c6b1 : ((bt a0 x5_1) != a1) = true := bne_iff_ne.mpr c6
     as_aux_lemma =>
      have H' := am H
      clear H
      have p5 : 0 ≤ (x5_1 : Int) := od
      have q5 : x5_1 < (a0.size : Int) := od
      have hx5 := bt_at a0 x5_1
      replace p5 := eq_true p5
      replace q5 := eq_true q5
      go_wp2
      go_roundg k1
      case measure => have := HK1.out; omega
      case rel => exact ⟨(wrap64 (x5_1 + 1)), fs, H', ⟨by have := HK1.out; omega⟩, dr⟩
    rw [if_neg c4] at H
    exact absurd H (by simp)
   rw [if_neg c3] at H
   have c3b0 : decide (x5_1 < (a0.size : Int)) = false := decide_eq_false c3
   clear c3
   as_aux_lemma =>
    obtain rfl := Option.some.inj H
    go_wp2
    go_ret
    exact ⟨by first | rfl | (simp; done) | (simp [*]; done), dr⟩

-- NOT PRINTED: function 49 (spec_l06Machine_find)

-- NOT PRINTED: function 37 (spec_l06Machine_can)

mutual
def spec_l05Groups.j0 : Nat → Int → Int → Int → Int → ByteArray → List (S31) → Option (Int)
 | 0, _, _, _, _, _, _ => none
 | k + 1, x3, x125000, x125001, x125002, x125003, x125004 => spec_l05Groups.l0 k x3 0 x125000 x125001 x125002 x125003 x125004
def spec_l05Groups.l0 : Nat → Int → Int → Int → Int → Int → ByteArray → List (S31) → Option (Int)
 | 0, _, _, _, _, _, _, _ => none
 | k + 1, x3, x4, x125000, x125001, x125002, x125003, x125004 => if x4 < (x125004.length : Int) then (if 0 ≤ x4 then ((spec_l05Groups.f k ((rd_T31 x125004 x4).f0) ((rd_T31 x125004 x4).f1) ((rd_T31 x125004 x4).f2) ((rd_T31 x125004 x4).f3) ((rd_T31 x125004 x4).f4)).bind fun t126 => (spec_l05Groups.l0 k (wrap64 (x3 + t126)) (wrap64 (x4 + 1)) x125000 x125001 x125002 x125003 x125004)) else (none)) else (some x3)
def spec_l05Groups.f : Nat → Int → Int → Int → ByteArray → List (S31) → Option (Int)
 | 0, _, _, _, _, _ => none
 | k + 1, a0_0, a0_1, a0_2, a0_3, l0_4 => if a0_0 = 6 then (spec_l05Groups.j0 k (0 + 1) a0_0 a0_1 a0_2 a0_3 l0_4) else (spec_l05Groups.j0 k 0 a0_0 a0_1 a0_2 a0_3 l0_4)
end
theorem spec_l05Groups.calls (k : Nat) : ∀ (a0_0 : Int) (a0_1 : Int) (a0_2 : Int) (a0_3 : ByteArray) (A0_4 : Option Addr) (c0_4 : Nat) (l0_4 : List (S31)) (r : Int) (w : World) (hr0_4 : Kd.C k31 w A0_4 l0_4.length l0_4) (hc0_4 : l0_4.length ≤ c0_4) (h : spec_l05Groups.f k a0_0 a0_1 a0_2 a0_3 l0_4 = some r),
  Calls Try.prog 40 #[.agg #[.int .i64 a0_0, .int .i64 a0_1, .int .i64 a0_2, .string a0_3, .slice A0_4 l0_4.length c0_4]] w fun e w' => e = .returned (.int .i64 r) ∧ Below w.heap.size w w' := by
 induction k using Nat.strongRecOn with
 | _ k ih =>
 intro a0_0 a0_1 a0_2 a0_3 A0_4 c0_4 l0_4 r w hr0_4 hc0_4 h
 cases k with
 | zero => exact absurd h (by simp [spec_l05Groups.f])
 | succ k =>
 simp only [spec_l05Groups.f] at h
 have hu31 := Try.underlying31
 have HR0_4 := am hr0_4
 have HC0_4 := am hc0_4
 clear hr0_4 hc0_4
 have HB := am (Below.refl w.heap.size w)
 have H : (if a0_0 = 6 then (spec_l05Groups.j0 k (0 + 1) a0_0 a0_1 a0_2 a0_3 l0_4) else (spec_l05Groups.j0 k 0 a0_0 a0_1 a0_2 a0_3 l0_4)) = some r := h
 clear h
 have HC2 := am H
 clear H
 go_enter Try.func40, Try.ntmps40
 go_upto_if 7 with (first | ((with_reducible refine gate_dst (N := 1) rfl ?_); refine box_event ?hg (N := 1) ?hd (cs := #[.int .i64 a0_0, .int .i64 a0_1, .int .i64 a0_2, .string a0_3, .slice A0_4 l0_4.length c0_4]) (t := 31) ?hr ?_; (case hd => rfl); (case hg => rfl); (case hr => first | (go_simp; done) | (go_simp; rfl)); intro gb124 hg w3 hbox hb; have BK124 := am hbox; have GW124 := gw (w := w) hg tB; have GE124 := GW124; replace HB := am (below_step tB hb); clear hb hbox hg; have hcz4_0 : w3.cell? ⟨gb124, 0, none⟩ = some (.int .i64 a0_0) := (blk_cell BK124.out 0).trans rfl; have hcz4_1 : w3.cell? ⟨gb124, 1, none⟩ = some (.int .i64 a0_1) := (blk_cell BK124.out 1).trans rfl; have hcz4_2 : w3.cell? ⟨gb124, 2, none⟩ = some (.int .i64 a0_2) := (blk_cell BK124.out 2).trans rfl; have hcz4_3 : w3.cell? ⟨gb124, 3, none⟩ = some (.string a0_3) := (blk_cell BK124.out 3).trans rfl; have hcz4_4 : w3.cell? ⟨gb124, 4, none⟩ = some (.slice A0_4 l0_4.length c0_4) := (blk_cell BK124.out 4).trans rfl; have hfz4_0 := blk_frozen BK124.out 0; have hfz4_1 := blk_frozen BK124.out 1; have hfz4_2 := blk_frozen BK124.out 2; have hfz4_3 := blk_frozen BK124.out 3; have hfz4_4 := blk_frozen BK124.out 4))
 (try simp only [Act.put, List.setIfInBounds_toArray, List.set_cons_zero, List.set_cons_succ])
 go_cut [3] (fun v3 wc => ∃ (kq : Nat) (x3_1 : Int), v3 = .int .i64 x3_1 ∧ Aside0 (spec_l05Groups.j0 kq x3_1 a0_0 a0_1 a0_2 a0_3 l0_4 = some r) ∧ Aside0 (kq ≤ k) ∧ Aside0 (wc.heap[gb124]? = some (.cells #[.int .i64 a0_0, .int .i64 a0_1, .int .i64 a0_2, .string a0_3, (.slice A0_4 l0_4.length c0_4)] 31 (0, 0))) ∧ Aside0 (Below w.heap.size w wc))
 case first =>
  have H := HC2.out
  clear HC2
  by_cases c5 : a0_0 = 6
  ·
   rw [if_pos c5] at H
   have c5b0 : (a0_0 == 6) = true := beq_iff_eq.mpr c5
   have c5b1 : (a0_0 != 6) = false := bne_eq_false_iff_eq.mpr c5
   clear c5
   (first | rw [c5b0] | (simp only [i64_w, i32_w]; rw [c5b0]) | skip)
   as_aux_lemma =>
    have H' := am H
    clear H
    go_wp2
    go_meet
    case rel => exact ⟨_, (0 + 1), fs, H', ⟨by first | omega | exact Nat.le_refl _⟩, ⟨tK⟩, ⟨by repeat (first | (with_reducible first | exact HB.out | apply below_alloc | apply pw_below_drewN | apply below_drew1 | refine below_set ?_ GE124.out) | exact HB.out)⟩⟩
  rw [if_neg c5] at H
  have c5b0 : (a0_0 == 6) = false := beq_eq_false_iff_ne.mpr c5
  have c5b1 : (a0_0 != 6) = true := bne_iff_ne.mpr c5
  (first | rw [c5b0] | (simp only [i64_w, i32_w]; rw [c5b0]) | skip)
  as_aux_lemma =>
   have H' := am H
   clear H
   go_wp2
   go_meet
   case rel => exact ⟨_, (0), fs, H', ⟨by first | omega | exact Nat.le_refl _⟩, ⟨tK⟩, ⟨by repeat (first | (with_reducible first | exact HB.out | apply below_alloc | apply pw_below_drewN | apply below_drew1 | refine below_set ?_ GE124.out) | exact HB.out)⟩⟩
 case rest =>
  clear HC2
  try clear hcz4_0
  try clear hcz4_1
  try clear hcz4_2
  try clear hcz4_3
  try clear hcz4_4
  try clear hfz4_0
  try clear hfz4_1
  try clear hfz4_2
  try clear hfz4_3
  try clear hfz4_4
  obtain ⟨kq, x3_1, rfl, HA, HJ1, BK124, HB⟩ := hcut
  cases kq with
  | zero => exact absurd HA.out (by simp [spec_l05Groups.j0])
  | succ kj1 =>
   have H := HA.out
   clear HA
   simp only [spec_l05Groups.j0] at H
   have H' := am H
   clear H
   go_wp2
   go_loopg [3, 4] kj1 (fun kq v3 v4 w' => ∃ (x3_2 : Int) (x4_2 : Int), v3 = .int .i64 x3_2 ∧ v4 = .int .i64 x4_2 ∧ Aside0 (spec_l05Groups.l0 kq x3_2 x4_2 a0_0 a0_1 a0_2 a0_3 l0_4 = some r) ∧ Aside0 (kq ≤ kj1) ∧ Aside0 (w'.heap[gb124]? = some (.cells #[.int .i64 a0_0, .int .i64 a0_1, .int .i64 a0_2, .string a0_3, (.slice A0_4 l0_4.length c0_4)] 31 (0, 0))) ∧ Aside0 (Below w.heap.size w w'))
   case atStart => exact ⟨(x3_1), (0), fs, fs, H', ⟨Nat.le_refl _⟩, ⟨tK⟩, ⟨by repeat (first | (with_reducible first | exact HB.out | apply below_alloc | apply pw_below_drewN | apply below_drew1 | refine below_set ?_ GE124.out) | exact HB.out)⟩⟩
   case round =>
    clear H'
    try clear hcz4_0
    try clear hcz4_1
    try clear hcz4_2
    try clear hcz4_3
    try clear hcz4_4
    try clear hfz4_0
    try clear hfz4_1
    try clear hfz4_2
    try clear hfz4_3
    try clear hfz4_4
    obtain ⟨x3_2, x4_2, rfl, rfl, HA, HK2, BK124, HB⟩ := hrel
    cases gk with
    | zero => exact absurd HA.out (by simp [spec_l05Groups.l0])
    | succ k2 =>
     have H := HA.out
     clear HA
     simp only [spec_l05Groups.l0] at H
     by_cases c6 : x4_2 < (l0_4.length : Int)
     ·
      rw [if_pos c6] at H
      have c6b0 : decide (x4_2 < (l0_4.length : Int)) = true := decide_eq_true c6
      clear c6
      by_cases c7 : 0 ≤ x4_2
      ·
       rw [if_pos c7] at H
       have c7b0 : decide (0 ≤ x4_2) = true := decide_eq_true c7
       clear c7
       replace H := Option.bind_eq_some_iff.mp H
       obtain ⟨t126, A80, H⟩ := H
       replace H : (spec_l05Groups.l0 k2 (wrap64 (x3_2 + t126)) (wrap64 (x4_2 + 1)) a0_0 a0_1 a0_2 a0_3 l0_4) = some r := H
       have A8 := am A80
       clear A80
       as_aux_lemma =>
        have H' := am H
        clear H
        obtain ⟨hcz9_0, hfz9_0, hcz9_1, hfz9_1, hcz9_2, hfz9_2, hcz9_3, hfz9_3, hcz9_4, hfz9_4⟩ := bkc5 BK124.out
        have p125 : 0 ≤ (x4_2 : Int) := od
        have q125 : x4_2 < (l0_4.length : Int) := od
        obtain ⟨ad125, A125_4, c125_4, e125, hx125_0, hx125_1, hx125_2, hx125_3, hx125_4, hl125_4, hi125_4⟩ := at_T31 HR0_4.out x4_2 p125 q125
        cases e125
        replace hx125_0 := (HB.out.cell (World.block_lt_of_cell? w _ hx125_0)).trans hx125_0
        replace hx125_1 := (HB.out.cell (World.block_lt_of_cell? w _ hx125_1)).trans hx125_1
        replace hx125_2 := (HB.out.cell (World.block_lt_of_cell? w _ hx125_2)).trans hx125_2
        replace hx125_3 := (HB.out.cell (World.block_lt_of_cell? w _ hx125_3)).trans hx125_3
        replace hx125_4 := (HB.out.cell (World.block_lt_of_cell? w _ hx125_4)).trans hx125_4
        have HR125_4 := am hi125_4
        have HC125_4 := am hl125_4
        clear hi125_4 hl125_4
        replace p125 := eq_true p125
        replace q125 := eq_true q125
        go_wp2_with (first | ((with_reducible refine gate_callee (f := 40) rfl ?_); refine goesL_ (some 23) rfl rfl Try.func40 (by kernel_rfl) rfl #[.agg #[.int .i64 ((rd_T31 l0_4 x4_2).f0), .int .i64 ((rd_T31 l0_4 x4_2).f1), .int .i64 ((rd_T31 l0_4 x4_2).f2), .string ((rd_T31 l0_4 x4_2).f3), .slice A125_4 ((rd_T31 l0_4 x4_2).f4).length c125_4]] rfl tA ?_; (with_reducible refine (ih k2 (by have := HJ1.out; have := HK2.out; omega) ((rd_T31 l0_4 x4_2).f0) ((rd_T31 l0_4 x4_2).f1) ((rd_T31 l0_4 x4_2).f2) ((rd_T31 l0_4 x4_2).f3) _ _ ((rd_T31 l0_4 x4_2).f4) t126 _ ?side1 ?side2 A8.out).mono ?_); (case side1 => repeat (first | exact (Kd.C_below HR125_4.out HB.out) | (with_reducible refine Kd.C_alloc ?_ _) | (with_reducible refine Kd.C_drewN ?_ _) | (with_reducible refine Kd.C_drew ?_))); (case side2 => exact HC125_4.out); rintro e w10 ⟨rfl, hb⟩; refine ⟨_, rfl, ?_⟩; have n0_ := am (blk_below (g := gb124) (o := .cells #[.int .i64 a0_0, .int .i64 a0_1, .int .i64 a0_2, .string a0_3, .slice (some ad125) l0_4.length c0_4] 31 (0, 0)) tK hb); have n1_ := am (below_step (by repeat (first | (with_reducible first | exact HB.out | apply below_alloc | apply pw_below_drewN | apply below_drew1 | refine below_set ?_ GE124.out) | exact HB.out)) hb); clear BK124; clear HB; have BK124 := n0_; have HB := n1_; clear n0_ n1_; (try clear hb); (try clear hb2); (try clear hk); (try clear hi)))
        go_roundg k2
        case measure => have := HJ1.out; have := HK2.out; omega
        case rel => exact ⟨(wrap64 (x3_2 + t126)), (wrap64 (x4_2 + 1)), fs, fs, H', ⟨by have := HJ1.out; have := HK2.out; omega⟩, ⟨tK⟩, ⟨by repeat (first | (with_reducible first | exact HB.out | apply below_alloc | apply pw_below_drewN | apply below_drew1 | refine below_set ?_ GE124.out) | exact HB.out)⟩⟩
      rw [if_neg c7] at H
      exact absurd H (by simp)
     rw [if_neg c6] at H
     have c6b0 : decide (x4_2 < (l0_4.length : Int)) = false := decide_eq_false c6
     clear c6
     as_aux_lemma =>
      obtain rfl := Option.some.inj H
      obtain ⟨hcz11_0, hfz11_0, hcz11_1, hfz11_1, hcz11_2, hfz11_2, hcz11_3, hfz11_3, hcz11_4, hfz11_4⟩ := bkc5 BK124.out
      go_wp2
      go_ret
      exact ⟨tE, by repeat (first | (with_reducible first | exact HB.out | apply below_alloc | apply pw_below_drewN | apply below_drew1 | refine below_set ?_ GE124.out) | exact HB.out)⟩

-- NOT PRINTED: function 41 (spec_l06Machine_spans)

-- NOT PRINTED: function 24 (spec_l06Find)

-- NOT PRINTED: function 7 (spec_Find)

mutual
def laws_toRx.g : S24 → S31
 | ⟨a0, a1, a2, a3, a4⟩ => ⟨a0, a1, a2, a3, laws_toRx.go a4⟩
def laws_toRx.go : List S24 → List S31
 | [] => []
 | x :: l => laws_toRx.g x :: laws_toRx.go l
end
mutual
def laws_toRx.ok : S24 → Bool
 | ⟨_, _, _, _, a4⟩ => decide (a4.length ≤ 4398046511104) && laws_toRx.okL a4
def laws_toRx.okL : List S24 → Bool
 | [] => true
 | x :: l => laws_toRx.ok x && laws_toRx.okL l
end
theorem laws_toRx.info : (Try.prog.info? 31).map (fun i => (i.zero, i.size, i.bytes)) = some (some (.agg #[(.int .i64 0), (.int .i64 0), (.int .i64 0), (.string ⟨#[]⟩), (.slice none 0 0)]), 5, 64) := by kernel_rfl
theorem laws_toRx.go_map : ∀ l : List S24, laws_toRx.go l = l.map laws_toRx.g
 | [] => rfl
 | x :: l => by rw [laws_toRx.go, laws_toRx.go_map l]; rfl
theorem laws_toRx.go_len (l : List S24) : (laws_toRx.go l).length = l.length := by rw [laws_toRx.go_map, List.length_map]
theorem laws_toRx.okL_at : ∀ (l : List S24), laws_toRx.okL l = true → ∀ x ∈ l, laws_toRx.ok x = true
 | [], _, x, hx => by simp at hx
 | y :: l, h, x, hx => by
  rw [laws_toRx.okL, Bool.and_eq_true] at h
  rcases List.mem_cons.1 hx with rfl | hx
  ·
   exact h.1
  exact laws_toRx.okL_at l h.2 x hx
theorem to_at (l : List S24) (i : Nat) (hi : i < l.length) {n : Nat} (hn : SizeOf.sizeOf l ≤ n + 1) : SizeOf.sizeOf (rd_T24 l (i : Int)) ≤ n := by
 have hr : rd_T24 l (i : Int) = l[i] := by
  unfold rd_T24
  simp [List.getD_eq_getElem?_getD, List.getElem?_eq_getElem hi]
 rw [hr]
 have := List.sizeOf_lt_of_mem (List.getElem_mem hi)
 omega
theorem to_ok (l : List S24) (i : Nat) (hi : i < l.length) (h : laws_toRx.okL l = true) : laws_toRx.ok (rd_T24 l (i : Int)) = true := by
 have hr : rd_T24 l (i : Int) = l[i] := by
  unfold rd_T24
  simp [List.getD_eq_getElem?_getD, List.getElem?_eq_getElem hi]
 rw [hr]
 exact laws_toRx.okL_at l h _ (List.getElem_mem hi)
def laws_toRx.sofar (l : List S24) (i : Nat) : List S31 := (l.take i).map laws_toRx.g ++ List.replicate (l.length - i) z31
theorem laws_toRx.sofar_len (l : List S24) (i : Nat) (hi : i ≤ l.length) : (laws_toRx.sofar l i).length = l.length := by simp [laws_toRx.sofar]; omega
theorem laws_toRx.sofar_0 (l : List S24) : laws_toRx.sofar l 0 = List.replicate l.length z31 := by simp [laws_toRx.sofar]
theorem laws_toRx.sofar_end (l : List S24) (i : Nat) (hi : l.length ≤ i) : laws_toRx.sofar l i = laws_toRx.go l := by
 rw [laws_toRx.go_map, laws_toRx.sofar, List.take_of_length_le hi, show l.length - i = 0 by omega]
 simp
theorem laws_toRx.sofar_set (l : List S24) (i : Nat) (hi : i < l.length) : (laws_toRx.sofar l i).set i (laws_toRx.g (rd_T24 l (i : Int))) = laws_toRx.sofar l (i + 1) := by
 have hr : rd_T24 l (i : Int) = l[i] := by
  unfold rd_T24
  simp [List.getD_eq_getElem?_getD, List.getElem?_eq_getElem hi]
 rw [hr]
 unfold laws_toRx.sofar
 obtain ⟨m, hm⟩ : ∃ m, l.length - i = m + 1 := ⟨l.length - i - 1, by omega⟩
 have hm2 : l.length - (i + 1) = m := by omega
 rw [hm, hm2, List.replicate_succ, List.take_succ_eq_append_getElem hi, List.map_append]
 have hl : ((l.take i).map laws_toRx.g).length = i := by simp; omega
 rw [List.set_append_right _ _ (by omega), hl, Nat.sub_self]
 simp
theorem laws_toRxS.step (n : Nat) (ih : ∀ x : S24, SizeOf.sizeOf x ≤ n → laws_toRx.ok x = true → ∀ (A4 : Option Addr) (c4 : Nat) (w : World), k24.C w A4 x.f4.length x.f4 → x.f4.length ≤ c4 → Calls Try.prog 8 #[.agg #[.int .i64 x.f0, .int .i64 x.f1, .int .i64 x.f2, .string x.f3, .slice A4 x.f4.length c4]] w fun e w' => ∃ v4 : Value, e = .returned (.agg #[.int .i64 x.f0, .int .i64 x.f1, .int .i64 x.f2, .string x.f3, v4]) ∧ Kd.S k31 31 w' w.heap.size (fun _ => True) v4 (laws_toRx.go x.f4) ∧ Below w.heap.size w w')
  (l : List S24) (hn : SizeOf.sizeOf l ≤ n + 1) (hlim : l.length ≤ 4398046511104) (hok : laws_toRx.okL l = true) (A0 : Option Addr) (c0 : Nat) (w : World) (hr : k24.C w A0 l.length l) (hc : l.length ≤ c0) :
  Calls Try.prog 25 #[.slice A0 l.length c0] w fun e w' => ∃ v0 : Value, e = .returned v0 ∧ Kd.S k31 31 w' w.heap.size (fun _ => True) v0 (laws_toRx.go l) ∧ Below w.heap.size w w' := by
 have hu := Try.underlying31
 have HB := am (Below.refl w.heap.size w)
 have HR := am hr
 have LIM := am hlim
 have OK := am hok
 have IH := am ih
 have HN := am hn
 clear hr ih hn hc hlim hok
 go_enter Try.func25, Try.ntmps25
 go_wp2_with (first | ((with_reducible refine gate_dst (N := 7) rfl ?_); refine Kd.S_make k31 _ 31 rfl (N := 7) rfl 29 _ _ rfl (l.length : Int) rfl rfl Try.underlying29 (.agg #[(.int .i64 0), (.int .i64 0), (.int .i64 0), (.string ⟨#[]⟩), (.slice none 0 0)]) 64 laws_toRx.info rfl (by decide) (by omega) z31 (ok := fun _ => True) (okp := fun _ => True) (k31_mkM _ _ _ z31 (Kd.R_nil _ _ _ _ _)) (fun _ hk => hk) trivial (by omega) (by have := LIM.out; omega) (Below.refl _ _) (Nat.le_refl _) ?_; intro v3 w4 ho hb hg_ hnew_; clear hg_ hnew_; have HO := am (Kd.S_lower ho (below_size HB.out)); replace HB := am (below_step HB.out hb); clear hb ho))
 have e0 := HO.out
 rw [Int.toNat_natCast, ← laws_toRx.sofar_0] at e0
 clear HO
 have HO := am e0
 clear e0
 obtain ⟨A3, c3, e3⟩ := Kd.S_slice HO.out
 rw [laws_toRx.sofar_len l 0 (Nat.zero_le _)] at e3
 subst e3
 go_loopg [4] (l.length + 1) (fun kq v4 w' => ∃ i : Nat, v4 = .int .i64 (i : Int) ∧ Aside0 (i + kq = l.length + 1) ∧ Aside0 (Kd.S k31 31 w' w.heap.size (fun _ => True) (.slice A3 l.length c3) (laws_toRx.sofar l i)) ∧ Aside0 (Below w.heap.size w w'))
 case atStart => exact ⟨0, rfl, ⟨by omega⟩, HO, HB⟩
 case round =>
  clear HB HO
  obtain ⟨i, rfl, HK, HO, HB⟩ := hrel
  cases gk with
  | zero =>
   have hlt : decide ((i : Int) < (l.length : Int)) = false := decide_eq_false (by have := HK.out; omega)
   have hltn : decide (i < l.length) = false := decide_eq_false (by have := HK.out; omega)
   have HE := am (laws_toRx.sofar_end l i (by have := HK.out; omega))
   go_wp2
   go_ret
   exact ⟨_, rfl, by rw [← HE.out]; exact HO.out, HB.out⟩
  | succ k1 =>
   rcases Nat.lt_or_ge i l.length with hi | hi
   ·
    have hlt : decide ((i : Int) < (l.length : Int)) = true := decide_eq_true (by omega)
    have hltn : decide (i < l.length) = true := decide_eq_true (by omega)
    have hw : wrap64 ((i : Int) + 1) = ((i + 1 : Nat) : Int) := by have := LIM.out; unfold wrap64; omega
    have hww : IntKind.i64.wrap ((i : Int) + 1) = ((i + 1 : Nat) : Int) := (i64_w _).trans hw
    obtain ⟨ad, A4, c4, ea, ha0, ha1, ha2, ha3, ha4, hl4, hC4⟩ := at_T24 HR.out (i : Int) (by omega) (by omega)
    cases ea
    simp only [Int.toNat_natCast] at ha0 ha1 ha2 ha3 ha4
    replace ha0 := (HB.out.cell (World.block_lt_of_cell? w _ ha0)).trans ha0
    replace ha1 := (HB.out.cell (World.block_lt_of_cell? w _ ha1)).trans ha1
    replace ha2 := (HB.out.cell (World.block_lt_of_cell? w _ ha2)).trans ha2
    replace ha3 := (HB.out.cell (World.block_lt_of_cell? w _ ha3)).trans ha3
    replace ha4 := (HB.out.cell (World.block_lt_of_cell? w _ ha4)).trans ha4
    have HX := am hC4
    have HL4 := am hl4
    clear hC4 hl4
    have SZ := am (to_at l i hi HN.out)
    have OKX := am (to_ok l i hi OK.out)
    have EG := am (show (⟨(rd_T24 l (i : Int)).f0, (rd_T24 l (i : Int)).f1, (rd_T24 l (i : Int)).f2, (rd_T24 l (i : Int)).f3, laws_toRx.go (rd_T24 l (i : Int)).f4⟩ : S31) = laws_toRx.g (rd_T24 l (i : Int)) by cases (rd_T24 l (i : Int)); rw [laws_toRx.g])
    have p1 := eq_true (show (0 : Int) ≤ (i : Int) by omega)
    have q1 := eq_true (show (i : Int) < (l.length : Int) by omega)
    go_wp2_with (first | ((with_reducible refine gate_dst (N := 20) rfl ?_); refine goesL_ (some 20) rfl rfl Try.func8 (by kernel_rfl) rfl #[.agg #[.int .i64 (rd_T24 l (i : Int)).f0, .int .i64 (rd_T24 l (i : Int)).f1, .int .i64 (rd_T24 l (i : Int)).f2, .string (rd_T24 l (i : Int)).f3, .slice A4 (rd_T24 l (i : Int)).f4.length c4]] rfl (by (try simp only [List.map_toArray, List.map_cons, List.map_nil]); first | done | rfl) ?_; (with_reducible refine (IH.out (rd_T24 l (i : Int)) SZ.out OKX.out A4 c4 _ (Kd.C_below HX.out HB.out) HL4.out).mono ?_); rintro e w2 ⟨v4, rfl, ho4, hb⟩; obtain ⟨A5, c5, e5⟩ := Kd.S_slice ho4; subst e5; refine ⟨_, rfl, ?_⟩; obtain ⟨go, co, eo, gb, gl, cl, HG⟩ := Kd.S_form HO.out (by rw [laws_toRx.sofar_len l i (by omega)]; omega); injection eo with ea_ en_ ec_; subst ea_; subst ec_; clear en_; have GB := am gb; have HXX := am (show Kd.S k31 31 w2 w.heap.size (fun k_ => True ∧ ¬ (wr.heap.size ≤ k_)) (.slice (some ⟨go, 0, none⟩) l.length c3) (laws_toRx.sofar l i) from Kd.S_mono (Kd.S_below (Kd.S_bound HO.out) hb) (fun k_ hk_ => ⟨trivial, fun hq_ => absurd hk_.2.2.1 (Nat.not_lt.2 hq_)⟩)); have HS4 := am (show k31.R 31 w2 w.heap.size (fun k_ => wr.heap.size ≤ k_) (.slice A5 (laws_toRx.go (rd_T24 l (i : Int)).f4).length c5) (laws_toRx.go (rd_T24 l (i : Int)).f4) from Kd.R_mono (Kd.R_lower (Kd.S_R (Kd.S_bound ho4)) (below_size HB.out)) (fun k_ hk_ => hk_.2.1)); obtain ⟨oki, ce, hcl, hM, hcc, hfr, hoki, hH⟩ := Kd.S_elem HXX.out z31 (i : Int) (by omega) (by omega); obtain ⟨ve, rfl, ge⟩ := k31_openM hM; have HP := am (Kd.S_seg hH (by omega) (by omega) (seg := [(.int .i64 (rd_T24 l (i : Int)).f0), (.int .i64 (rd_T24 l (i : Int)).f1), (.int .i64 (rd_T24 l (i : Int)).f2), (.string (rd_T24 l (i : Int)).f3), .slice A5 (laws_toRx.go (rd_T24 l (i : Int)).f4).length c5]) (j := 0) (show 5 ≤ 5 from by decide) (x' := (⟨(rd_T24 l (i : Int)).f0, (rd_T24 l (i : Int)).f1, (rd_T24 l (i : Int)).f2, (rd_T24 l (i : Int)).f3, laws_toRx.go (rd_T24 l (i : Int)).f4⟩ : S31)) (k31_mkM _ _ _ (⟨(rd_T24 l (i : Int)).f0, (rd_T24 l (i : Int)).f1, (rd_T24 l (i : Int)).f2, (rd_T24 l (i : Int)).f3, laws_toRx.go (rd_T24 l (i : Int)).f4⟩ : S31) HS4.out) (fun _ h_ => Or.inr h_) (fun k_ hk_ => ⟨trivial, Nat.ne_of_gt (Nat.lt_of_lt_of_le gl hk_)⟩)); have hx0_ := hcc 0 _ rfl; have hx1_ := hcc 1 _ rfl; have hx2_ := hcc 2 _ rfl; have hx3_ := hcc 3 _ rfl; have hx4_ := hcc 4 _ rfl; have hf0_ := hfr 0; have hf1_ := hfr 1; have hf2_ := hfr 2; have hf3_ := hfr 3; have hf4_ := hfr 4; simp only [show k31.sz = 5 from rfl, Nat.add_zero, Int.toNat_natCast] at hx0_ hx1_ hx2_ hx3_ hx4_ hf0_ hf1_ hf2_ hf3_ hf4_; replace HB := am (below_step HB.out hb); clear hb hcc hfr hH hM hoki hcl HG gb gl ho4) | ((with_reducible refine gate_store (t := 31) (p := 21) rfl ?_); refine store_event (t := 31) (p := 21) (v := ?vo) (w1 := (((((w2.setCell ⟨go, i * 5, none⟩ (.int .i64 (rd_T24 l (i : Int)).f0)).setCell ⟨go, i * 5 + 1, none⟩ (.int .i64 (rd_T24 l (i : Int)).f1)).setCell ⟨go, i * 5 + 2, none⟩ (.int .i64 (rd_T24 l (i : Int)).f2)).setCell ⟨go, i * 5 + 3, none⟩ (.string (rd_T24 l (i : Int)).f3)).setCell ⟨go, i * 5 + 4, none⟩ (.slice A5 (laws_toRx.go (rd_T24 l (i : Int)).f4).length c5))) ?hg ?ho ?hn ?hr ?_; (case ho => rfl); (case hg => rfl); (case hn => rfl); (case hr => first | (go_simp; done) | (go_simp; rfl)); intro w13 hw; have n0_ := am (show Kd.S k31 31 w13 w.heap.size (fun _ => True) (.slice (some ⟨go, 0, none⟩) l.length c3) (laws_toRx.sofar l (i + 1)) from (by rw [hw, ← laws_toRx.sofar_set l i (by omega), ← EG.out]; exact HP.out.1)); have n1_ := am (show Below w.heap.size w w13 from (by rw [hw]; exact below_set (below_set (below_set (below_set (below_set HB.out GB.out) GB.out) GB.out) GB.out) GB.out)); clear HO HB HP; have HO := n0_; have HB := n1_; clear n0_ n1_ hw))
    go_roundg k1
    case measure => have := HK.out; omega
    case rel => exact ⟨i + 1, by first | rfl | (simp only [hw]) | simp, ⟨by have := HK.out; omega⟩, HO, HB⟩
   have hlt : decide ((i : Int) < (l.length : Int)) = false := decide_eq_false (by omega)
   have hltn : decide (i < l.length) = false := decide_eq_false (by omega)
   have HE := am (laws_toRx.sofar_end l i hi)
   go_wp2
   go_ret
   exact ⟨_, rfl, by rw [← HE.out]; exact HO.out, HB.out⟩
section
open Go.Proofs.Ytlpabbcgichaoaa.Lawful
theorem laws_toRx.step (n : Nat) (hS : ∀ l : List S24, SizeOf.sizeOf l ≤ n → l.length ≤ 4398046511104 → laws_toRx.okL l = true → ∀ (A0 : Option Addr) (c0 : Nat) (w : World), k24.C w A0 l.length l → l.length ≤ c0 → Calls Try.prog 25 #[.slice A0 l.length c0] w fun e w' => ∃ v0 : Value, e = .returned v0 ∧ Kd.S k31 31 w' w.heap.size (fun _ => True) v0 (laws_toRx.go l) ∧ Below w.heap.size w w')
  (x0 x1 x2 : Int) (x3 : ByteArray) (x4 : List S24) (hn : SizeOf.sizeOf x4 ≤ n) (hlim : x4.length ≤ 4398046511104) (hok : laws_toRx.okL x4 = true) (A4 : Option Addr) (c4 : Nat) (w : World) (hr : k24.C w A4 x4.length x4) (hc : x4.length ≤ c4) :
  Calls Try.prog 8 #[.agg #[.int .i64 x0, .int .i64 x1, .int .i64 x2, .string x3, .slice A4 x4.length c4]] w fun e w' => ∃ v4 : Value, e = .returned (.agg #[.int .i64 x0, .int .i64 x1, .int .i64 x2, .string x3, v4]) ∧ Kd.S k31 31 w' w.heap.size (fun _ => True) v4 (laws_toRx.go x4) ∧ Below w.heap.size w w' := by
 have hu := Try.underlying31
 have hu2 := Try.underlying24
 have HB := am (Below.refl w.heap.size w)
 have HR := am hr
 have HC := am hc
 have LIM := am hlim
 have OK := am hok
 have HSS := am hS
 have HNN := am hn
 obtain ⟨y, hy⟩ : ∃ y_, y_ = laws_toRx.go x4 := ⟨_, rfl⟩
 rw [← hy]
 have Ny := am hy
 clear hr hc hlim hok hS hn hy
 go_enter Try.func8, Try.ntmps8
 go_wp2_with (first | ((with_reducible refine gate_dst (N := 1) rfl ?_); refine bx_ (N := 1) (cs := #[.int .i64 x0, .int .i64 x1, .int .i64 x2, .string x3, .slice A4 x4.length c4]) (t := 24) rfl rfl ?hr_1 ?_; (case hr_1 => first | (go_simp; done) | (go_simp; rfl)); intro gX1 hg w2 hb hk PX1 hPX1 HX1; have GEX1 := am (gen_ hg HB.out); replace HB := am (below_step HB.out hb); clear hb hk hg hPX1; replace jX1 := HX1.out.c5) | ((with_reducible refine gate_dst (N := 2) rfl ?_); refine bx_ (N := 2) (cs := #[.int .i64 0, .int .i64 0, .int .i64 0, .string ByteArray.empty, .slice none 0 0]) (t := 31) rfl rfl ?hr_2 ?_; (case hr_2 => first | (go_simp; done) | (go_simp; rfl)); intro gX2 hg w2 hb hk PX2 hPX2 HX2; have GEX2 := am (gen_ hg HB.out); have D_X1_X2 := na hPX2 HX1; replace HX1 := sn hk HX1; replace HB := am (below_step HB.out hb); clear hb hk hg hPX2; replace jX1 := HX1.out.c5; replace jX2 := HX2.out.c5) | ((with_reducible refine gate_dst (N := 3) rfl ?_); refine bx_ (N := 3) (cs := #[.int .i64 0, .int .i64 0, .int .i64 0, .string ByteArray.empty, .slice none 0 0]) (t := 31) rfl rfl ?hr_3 ?_; (case hr_3 => first | (go_simp; done) | (go_simp; rfl)); intro gX3 hg w2 hb hk PX3 hPX3 HX3; have GEX3 := am (gen_ hg HB.out); have D_X1_X3 := na hPX3 HX1; have D_X2_X3 := na hPX3 HX2; replace HX1 := sn hk HX1; replace HX2 := sn hk HX2; replace HB := am (below_step HB.out hb); clear hb hk hg hPX3; replace jX1 := HX1.out.c5; replace jX2 := HX2.out.c5; replace jX3 := HX3.out.c5) | ((with_reducible refine gate_store (t := 3) (p := 6) rfl ?_); refine LB.stored HX3.out HB.out GEX3.out 0 [.int .i64 x0] rfl (t := 3) (p := 6) rfl rfl ?hr_4 ?_; (case hr_4 => first | (go_simp; done) | (go_simp; simp only [World.setCells, Nat.reduceAdd, Nat.zero_add]; done)); intro w2 hx hk hb; replace HX1 := ss hk HX1 D_X1_X3.out; replace HX2 := ss hk HX2 D_X2_X3.out; replace HB := am hb; replace HX3 := am (show LB w2 PX3 gX3 31 #[.int .i64 x0, .int .i64 0, .int .i64 0, .string ByteArray.empty, .slice none 0 0] from hx); clear hk hx hb; replace jX1 := HX1.out.c5; replace jX2 := HX2.out.c5; replace jX3 := HX3.out.c5) | ((with_reducible refine gate_store (t := 3) (p := 9) rfl ?_); refine LB.stored HX3.out HB.out GEX3.out 1 [.int .i64 x1] rfl (t := 3) (p := 9) rfl rfl ?hr_5 ?_; (case hr_5 => first | (go_simp; done) | (go_simp; simp only [World.setCells, Nat.reduceAdd, Nat.zero_add]; done)); intro w2 hx hk hb; replace HX1 := ss hk HX1 D_X1_X3.out; replace HX2 := ss hk HX2 D_X2_X3.out; replace HB := am hb; replace HX3 := am (show LB w2 PX3 gX3 31 #[.int .i64 x0, .int .i64 x1, .int .i64 0, .string ByteArray.empty, .slice none 0 0] from hx); clear hk hx hb; replace jX1 := HX1.out.c5; replace jX2 := HX2.out.c5; replace jX3 := HX3.out.c5) | ((with_reducible refine gate_store (t := 3) (p := 12) rfl ?_); refine LB.stored HX3.out HB.out GEX3.out 2 [.int .i64 x2] rfl (t := 3) (p := 12) rfl rfl ?hr_6 ?_; (case hr_6 => first | (go_simp; done) | (go_simp; simp only [World.setCells, Nat.reduceAdd, Nat.zero_add]; done)); intro w2 hx hk hb; replace HX1 := ss hk HX1 D_X1_X3.out; replace HX2 := ss hk HX2 D_X2_X3.out; replace HB := am hb; replace HX3 := am (show LB w2 PX3 gX3 31 #[.int .i64 x0, .int .i64 x1, .int .i64 x2, .string ByteArray.empty, .slice none 0 0] from hx); clear hk hx hb; replace jX1 := HX1.out.c5; replace jX2 := HX2.out.c5; replace jX3 := HX3.out.c5) | ((with_reducible refine gate_store (t := 9) (p := 15) rfl ?_); refine LB.stored HX3.out HB.out GEX3.out 3 [.string x3] rfl (t := 9) (p := 15) rfl rfl ?hr_7 ?_; (case hr_7 => first | (go_simp; done) | (go_simp; simp only [World.setCells, Nat.reduceAdd, Nat.zero_add]; done)); intro w2 hx hk hb; replace HX1 := ss hk HX1 D_X1_X3.out; replace HX2 := ss hk HX2 D_X2_X3.out; replace HB := am hb; replace HX3 := am (show LB w2 PX3 gX3 31 #[.int .i64 x0, .int .i64 x1, .int .i64 x2, .string x3, .slice none 0 0] from hx); clear hk hx hb; replace jX1 := HX1.out.c5; replace jX2 := HX2.out.c5; replace jX3 := HX3.out.c5) | ((with_reducible refine gate_dst (N := 18) rfl ?_); refine goesL_ (some 18) rfl rfl Try.func25 (by kernel_rfl) rfl #[.slice A4 x4.length c4] rfl (by (try simp only [List.map_toArray, List.map_cons, List.map_nil]); first | done | rfl) ?_; (with_reducible refine (HSS.out x4 HNN.out LIM.out OK.out A4 c4 _ (Kd.C_below HR.out HB.out) HC.out).mono ?_); rintro e w2 ⟨vY, rfl, hrY, hb⟩; refine ⟨_, rfl, ?_⟩; rw [← Ny.out] at hrY; have hk := kept_below hb; obtain ⟨PY, hPY, HLY⟩ := LS.fresh HB.out hrY; have HY := am HLY; clear HLY hrY; have D_X1_Y := na hPY HX1; have D_X2_Y := na hPY HX2; have D_X3_Y := na hPY HX3; replace HX1 := sn hk HX1; replace HX2 := sn hk HX2; replace HX3 := sn hk HX3; clear hPY; obtain ⟨BY, DY, e_Y⟩ := HY.out.val; subst e_Y; replace HB := am (below_step HB.out hb); clear hb hk; replace jX1 := HX1.out.c5; replace jX2 := HX2.out.c5; replace jX3 := HX3.out.c5) | ((with_reducible refine gate_store (t := 29) (p := 19) rfl ?_); refine LB.stored HX3.out HB.out GEX3.out 4 [.slice BY y.length DY] rfl (t := 29) (p := 19) rfl rfl ?hr_8 ?_; (case hr_8 => first | (go_simp; done) | (go_simp; simp only [World.setCells, Nat.reduceAdd, Nat.zero_add]; done)); intro w2 hx hk hb; replace HX1 := ss hk HX1 D_X1_X3.out; replace HX2 := ss hk HX2 D_X2_X3.out; replace HY := am (HY.out.step hk (apart_symm D_X3_Y.out)); replace HB := am hb; replace HX3 := am (show LB w2 PX3 gX3 31 #[.int .i64 x0, .int .i64 x1, .int .i64 x2, .string x3, .slice BY y.length DY] from hx); clear hk hx hb; replace jX1 := HX1.out.c5; replace jX2 := HX2.out.c5; replace jX3 := HX3.out.c5) | ((with_reducible refine gate_store (t := 31) (p := 2) rfl ?_); refine LB.storedW HX2.out HB.out GEX2.out [.int .i64 x0, .int .i64 x1, .int .i64 x2, .string x3, .slice BY y.length DY] rfl rfl (t := 31) (p := 2) rfl rfl ?hr_9 ?_; (case hr_9 => first | (go_simp; done) | (go_simp; simp only [World.setCells, Nat.reduceAdd, Nat.zero_add]; done)); intro w2 hx hk hb; replace HX1 := ss hk HX1 D_X1_X2.out; replace HX3 := ss hk HX3 (apart_symm D_X2_X3.out); replace HY := am (HY.out.step hk (apart_symm D_X2_Y.out)); replace HB := am hb; replace HX2 := am (show LB w2 PX2 gX2 31 #[.int .i64 x0, .int .i64 x1, .int .i64 x2, .string x3, .slice BY y.length DY] from hx); clear hk hx hb; replace jX1 := HX1.out.c5; replace jX2 := HX2.out.c5; replace jX3 := HX3.out.c5))
 refine bodyPost_ret (results_cell_row rfl _ _ gX2 31 #[.int .i64 x0, .int .i64 x1, .int .i64 x2, .string x3, .slice BY y.length DY] (0, 0) _ rfl HX2.out.2.1 Try.underlying31 rfl (by kernel_rfl)) rfl ?_
 exact ⟨_, rfl, Kd.S_mono HY.out.1 (fun _ _ => trivial), HB.out⟩
end
theorem laws_toRx.any : ∀ n : Nat, (∀ l : List S24, SizeOf.sizeOf l ≤ n → l.length ≤ 4398046511104 → laws_toRx.okL l = true → ∀ (A0 : Option Addr) (c0 : Nat) (w : World), k24.C w A0 l.length l → l.length ≤ c0 → Calls Try.prog 25 #[.slice A0 l.length c0] w fun e w' => ∃ v0 : Value, e = .returned v0 ∧ Kd.S k31 31 w' w.heap.size (fun _ => True) v0 (laws_toRx.go l) ∧ Below w.heap.size w w') ∧ (∀ x : S24, SizeOf.sizeOf x ≤ n → laws_toRx.ok x = true → ∀ (A4 : Option Addr) (c4 : Nat) (w : World), k24.C w A4 x.f4.length x.f4 → x.f4.length ≤ c4 → Calls Try.prog 8 #[.agg #[.int .i64 x.f0, .int .i64 x.f1, .int .i64 x.f2, .string x.f3, .slice A4 x.f4.length c4]] w fun e w' => ∃ v4 : Value, e = .returned (.agg #[.int .i64 x.f0, .int .i64 x.f1, .int .i64 x.f2, .string x.f3, v4]) ∧ Kd.S k31 31 w' w.heap.size (fun _ => True) v4 (laws_toRx.go x.f4) ∧ Below w.heap.size w w')
 | 0 => ⟨fun l h => by cases l <;> simp at h, fun x h => by cases x; simp at h⟩
 | n + 1 => by
  obtain ⟨i1, i2⟩ := laws_toRx.any n
  refine ⟨fun l h hlim hok A0 c0 w hr hc => laws_toRxS.step n i2 l h hlim hok A0 c0 w hr hc, fun x h hok A4 c4 w hr hc => ?_⟩
  obtain ⟨x0, x1, x2, x3, x4⟩ := x
  rw [laws_toRx.ok, Bool.and_eq_true, decide_eq_true_eq] at hok
  exact laws_toRx.step n i1 x0 x1 x2 x3 x4 (by simp at h; omega) hok.1 hok.2 A4 c4 w hr hc
def laws_toRxS.f (l0 : List (S24)) : Option ((List (S31))) := if l0.length ≤ 4398046511104 ∧ laws_toRx.okL l0 = true then some (laws_toRx.go l0) else none
def laws_toRx.f (a0_0 : Int) (a0_1 : Int) (a0_2 : Int) (a0_3 : ByteArray) (l0_4 : List (S24)) : Option (Int × Int × Int × ByteArray × (List (S31))) := if l0_4.length ≤ 4398046511104 ∧ laws_toRx.okL l0_4 = true then some (a0_0, a0_1, a0_2, a0_3, laws_toRx.go l0_4) else none
theorem laws_toRx.callsS (a0_0 : Int) (a0_1 : Int) (a0_2 : Int) (a0_3 : ByteArray) (A0_4 : Option Addr) (c0_4 : Nat) (l0_4 : List (S24)) (r1 : Int) (r2 : Int) (r3 : Int) (r4 : ByteArray) (r5 : List (S31)) (w : World) (hr0_4 : Kd.C k24 w A0_4 l0_4.length l0_4) (hc0_4 : l0_4.length ≤ c0_4) (h : laws_toRx.f a0_0 a0_1 a0_2 a0_3 l0_4 = some (r1, r2, r3, r4, r5)) :
  Calls Try.prog 8 #[.agg #[.int .i64 a0_0, .int .i64 a0_1, .int .i64 a0_2, .string a0_3, .slice A0_4 l0_4.length c0_4]] w fun e w' => ∃ v4_ : Value, e = .returned (.agg #[.int .i64 r1, .int .i64 r2, .int .i64 r3, .string r4, v4_]) ∧ Kd.S k31 31 w' w.heap.size (fun _ => True) v4_ r5 ∧ Below w.heap.size w w' := by
 unfold laws_toRx.f at h
 by_cases c : l0_4.length ≤ 4398046511104 ∧ laws_toRx.okL l0_4 = true
 ·
  rw [if_pos c] at h
  simp only [Option.some.injEq, Prod.mk.injEq] at h
  obtain ⟨rfl, rfl, rfl, rfl, rfl⟩ := h
  exact (laws_toRx.any _).2 ⟨a0_0, a0_1, a0_2, a0_3, l0_4⟩ (Nat.le_refl _) (by rw [laws_toRx.ok, Bool.and_eq_true, decide_eq_true_eq]; exact c) A0_4 c0_4 w hr0_4 hc0_4
 rw [if_neg c] at h
 exact absurd h (by simp)

end Go.Proofs.Ytlpabbcgichaoaa.PFnExactFind
