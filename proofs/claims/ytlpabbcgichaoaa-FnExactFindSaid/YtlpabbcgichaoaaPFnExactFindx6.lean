import Derived.Test.YtlpabbcgichaoaaPFnExactFindx0
import Derived.Test.YtlpabbcgichaoaaPFnExactFindx1
import Derived.Test.YtlpabbcgichaoaaPFnExactFindx5
import Derived.Test.YtlpabbcgichaoaaWWords
namespace Go.Proofs.Ytlpabbcgichaoaa.PFnExactFind
open Go.RowKit Go.Proofs.YtlpabbcgichaoaaW.PrintWords Go.Proofs.YtlpabbcgichaoaaW.PrintLast Go.Proofs.YtlpabbcgichaoaaW.PrintMore
attribute [local go_sem] max2_int min2_int max_two min_two max_three min_three max_four min_four
set_option maxHeartbeats 8000000
set_option maxRecDepth 100000
set_option linter.unusedVariables false
set_option linter.unusedSimpArgs false

section
open Go.Proofs.Ytlpabbcgichaoaa.Lawful
def impl_RxOK.f (a0_0 : Int) (a0_1 : Int) (a0_2 : Int) (a0_3 : ByteArray) (l0_4 : List S31) : Option Bool := some (!(impl_looker.g ⟨a0_0, a0_1, a0_2, a0_3, l0_4⟩ 0 0 false).2.2.2)
theorem impl_RxOK.calls (a0_0 : Int) (a0_1 : Int) (a0_2 : Int) (a0_3 : ByteArray) (A0_4 : Option Addr) (c0_4 : Nat) (l0_4 : List (S31)) (r : Bool) (w : World) (hr0_4 : Kd.C k31 w A0_4 l0_4.length l0_4) (hc0_4 : l0_4.length ≤ c0_4) (h : impl_RxOK.f a0_0 a0_1 a0_2 a0_3 l0_4 = some r) :
  Calls Try.prog 43 #[.agg #[.int .i64 a0_0, .int .i64 a0_1, .int .i64 a0_2, .string a0_3, .slice A0_4 l0_4.length c0_4]] w fun e w' => e = .returned (.bool r) ∧ Below w.heap.size w w' := by
 have hu := Try.underlying31
 have hu2 := Try.underlying97
 have HB := am (Below.refl w.heap.size w)
 have HR := am hr0_4
 have HC := am hc0_4
 have HE := am (show (!(impl_looker.g ⟨a0_0, a0_1, a0_2, a0_3, l0_4⟩ 0 0 false).2.2.2) = r from Option.some.inj h)
 clear hr0_4 hc0_4 h
 obtain ⟨⟨r1, r2, r3, r4⟩, hrr⟩ : ∃ r_, r_ = (impl_looker.g ⟨a0_0, a0_1, a0_2, a0_3, l0_4⟩ 0 0 false) := ⟨_, rfl⟩
 have IHC := am (show ∀ (PG : Nat → Prop) (gG : Nat) (ws' : World), Below w.heap.size w ws' → w.heap.size ≤ gG → LB ws' PG gG 97 #[.int .i64 0, .int .i64 0, .bool false] → Calls Try.prog 59 #[.pointer (some ⟨gG, 0, none⟩), .agg #[.int .i64 a0_0, .int .i64 a0_1, .int .i64 a0_2, .string a0_3, .slice A0_4 l0_4.length c0_4]] ws' fun e w' => e = .returned (.int .i64 r1) ∧ LB w' PG gG 97 #[.int .i64 r2, .int .i64 r3, .bool r4] ∧ Below w.heap.size w w' ∧ Kept ws' w' PG from fun PG gG ws' h1_ h4_ h2_ => by have h3_ := impl_looker_weight.any _ ⟨a0_0, a0_1, a0_2, a0_3, l0_4⟩ (Nat.le_refl _) PG gG A0_4 c0_4 0 0 false w ws' h1_ h4_ h2_ HR.out HC.out; rw [← hrr] at h3_; exact h3_)
 rw [← hrr] at HE
 clear hrr
 go_enter Try.func43, Try.ntmps43
 go_wp2_with (first | ((with_reducible refine gate_dst (N := 1) rfl ?_); refine bx_ (N := 1) (cs := #[.int .i64 a0_0, .int .i64 a0_1, .int .i64 a0_2, .string a0_3, .slice A0_4 l0_4.length c0_4]) (t := 31) rfl rfl ?hr_23 ?_; (case hr_23 => first | (go_simp; done) | (go_simp; rfl)); intro gX6 hg w2 hb hk PX6 hPX6 HX6; have GEX6 := am (gen_ hg HB.out); replace HB := am (below_step HB.out hb); clear hb hk hg hPX6; replace jX6 := HX6.out.c5) | ((with_reducible refine gate_dst (N := 5) rfl ?_); refine bx_ (N := 5) (cs := #[.int .i64 0, .int .i64 0, .bool false]) (t := 97) rfl rfl ?hr_24 ?_; (case hr_24 => first | (go_simp; done) | (go_simp; rfl)); intro gX7 hg w2 hb hk PX7 hPX7 HX7; have GEX7 := am (gen_ hg HB.out); have D_X6_X7 := na hPX7 HX6; replace HX6 := sn hk HX6; replace HB := am (below_step HB.out hb); clear hb hk hg hPX7; replace jX6 := HX6.out.c5; replace jX7 := HX7.out.c3) | ((with_reducible refine gate_dst (N := 8) rfl ?_); refine goesL_ (some 8) rfl rfl Try.func59 (by kernel_rfl) rfl #[.pointer (some ⟨gX7, 0, none⟩), .agg #[.int .i64 a0_0, .int .i64 a0_1, .int .i64 a0_2, .string a0_3, .slice A0_4 l0_4.length c0_4]] rfl (by (try simp only [List.map_toArray, List.map_cons, List.map_nil]); first | done | rfl) ?_; (with_reducible refine (IHC.out PX7 gX7 _ HB.out GEX7.out HX7.out).mono ?_); rintro e w2 ⟨rfl, hg2, hb2, hk2⟩; refine ⟨_, rfl, ?_⟩; replace HX6 := ss hk2 HX6 D_X6_X7.out; replace HB := am hb2; replace HX7 := am hg2; clear hk2 hb2 hg2; replace jX6 := HX6.out.c5; replace jX7 := HX7.out.c3))
 go_ret
 exact ⟨by rw [← HE.out]; rfl, HB.out⟩
end

def impl_matchCode.f (k : Nat) (a0_0 : Int) (a0_1 : Int) (a0_2 : Int) (a0_3 : ByteArray) (l0_4 : List (S31)) (a1 : ByteArray) : Option (Int) := (impl_long.f k (([a1] : List ByteArray))).bind fun t149 => ((impl_RxOK.f a0_0 a0_1 a0_2 a0_3 l0_4).bind fun t150 => ((impl_unless.f t150 1).bind fun t151 => ((impl_unless.f (decide ((a1.size : Int) ≤ 120)) 14).bind fun t152 => ((impl_first.f k (([t149, t151, t152] : List Int))).bind fun t156 => (some t156)))))
def impl_matchCode.T1 : Bool × List (List Nat × List Nat) := (true, [([], []), ([0], [0]), ([1], [1]), ([], []), ([3, 2], [3]), ([4, 4], [4]), ([], []), ([6], [6]), ([7], [7]), ([8, 5], [8]), ([2, 5, 9], [2, 5, 9]), ([10, 9], [10]), ([11, 11, 0, 1, 2, 3, 4, 5, 6, 7, 8, 9, 10, 11], [11])])
def impl_matchCode.B1 : List Nat := [0, 1, 3, 0, 15, 31, 0, 64, 192, 511, 1023, 2047, 4095]
theorem impl_matchCode.tab1 : rtab .any (opsOf Try.f27 1) = impl_matchCode.T1 := by kernel_rfl
theorem impl_matchCode.bits1 : waitsOk impl_matchCode.T1.2 impl_matchCode.B1 = true := by kernel_rfl
theorem impl_matchCode.calls (k : Nat) (a0_0 : Int) (a0_1 : Int) (a0_2 : Int) (a0_3 : ByteArray) (A0_4 : Option Addr) (c0_4 : Nat) (l0_4 : List (S31)) (a1 : ByteArray) (r : Int) (w : World) (hr0_4 : Kd.C k31 w A0_4 l0_4.length l0_4) (hc0_4 : l0_4.length ≤ c0_4) (h : impl_matchCode.f k a0_0 a0_1 a0_2 a0_3 l0_4 a1 = some r) :
  Calls Try.prog 27 #[.agg #[.int .i64 a0_0, .int .i64 a0_1, .int .i64 a0_2, .string a0_3, .slice A0_4 l0_4.length c0_4], .string a1] w fun e w' => e = .returned (.int .i64 r) ∧ Below w.heap.size w w' := by
 have hu31 := Try.underlying31
 have HR0_4 := am hr0_4
 have HC0_4 := am hc0_4
 clear hr0_4 hc0_4
 have HB := am (Below.refl w.heap.size w)
 have H : ((impl_long.f k (([a1] : List ByteArray))).bind fun t149 => ((impl_RxOK.f a0_0 a0_1 a0_2 a0_3 l0_4).bind fun t150 => ((impl_unless.f t150 1).bind fun t151 => ((impl_unless.f (decide ((a1.size : Int) ≤ 120)) 14).bind fun t152 => ((impl_first.f k (([t149, t151, t152] : List Int))).bind fun t156 => (some t156)))))) = some r := h
 clear h
 obtain ⟨y146, hy146⟩ : ∃ y_ : List ByteArray, y_ = (([a1] : List ByteArray)) := ⟨_, rfl⟩
 replace H : ((impl_long.f k y146).bind fun t149 => ((impl_RxOK.f a0_0 a0_1 a0_2 a0_3 l0_4).bind fun t150 => ((impl_unless.f t150 1).bind fun t151 => ((impl_unless.f (decide ((a1.size : Int) ≤ 120)) 14).bind fun t152 => ((impl_first.f k (([t149, t151, t152] : List Int))).bind fun t156 => (some t156)))))) = some r := by first | (rw [hy146]; with_reducible exact H) | (have H2_ := (Option.bind_some _ _).symm.trans H; rw [hy146]; with_reducible exact H2_) | (have H2_ := (Option.bind_some _ _).symm.trans H; with_reducible exact H2_) | with_reducible exact H | (rw [hy146]; exact H) | exact H
 have Ny146 := am hy146
 clear hy146
 replace H := Option.bind_eq_some_iff.mp H
 obtain ⟨t149, A30, H⟩ := H
 replace H : ((impl_RxOK.f a0_0 a0_1 a0_2 a0_3 l0_4).bind fun t150 => ((impl_unless.f t150 1).bind fun t151 => ((impl_unless.f (decide ((a1.size : Int) ≤ 120)) 14).bind fun t152 => ((impl_first.f k (([t149, t151, t152] : List Int))).bind fun t156 => (some t156))))) = some r := H
 have A3 := am A30
 clear A30
 replace H := Option.bind_eq_some_iff.mp H
 obtain ⟨t150, A40, H⟩ := H
 replace H : ((impl_unless.f t150 1).bind fun t151 => ((impl_unless.f (decide ((a1.size : Int) ≤ 120)) 14).bind fun t152 => ((impl_first.f k (([t149, t151, t152] : List Int))).bind fun t156 => (some t156)))) = some r := H
 have A4 := am A40
 clear A40
 replace H := Option.bind_eq_some_iff.mp H
 obtain ⟨t151, A50, H⟩ := H
 replace H : ((impl_unless.f (decide ((a1.size : Int) ≤ 120)) 14).bind fun t152 => ((impl_first.f k (([t149, t151, t152] : List Int))).bind fun t156 => (some t156))) = some r := H
 have A5 := am A50
 clear A50
 replace H := Option.bind_eq_some_iff.mp H
 obtain ⟨t152, A60, H⟩ := H
 replace H : ((impl_first.f k (([t149, t151, t152] : List Int))).bind fun t156 => (some t156)) = some r := H
 have A6 := am A60
 clear A60
 obtain ⟨y153, hy153⟩ : ∃ y_ : List Int, y_ = (([t149, t151, t152] : List Int)) := ⟨_, rfl⟩
 replace H : ((impl_first.f k y153).bind fun t156 => (some t156)) = some r := by first | (rw [hy153]; with_reducible exact H) | (have H2_ := (Option.bind_some _ _).symm.trans H; rw [hy153]; with_reducible exact H2_) | (have H2_ := (Option.bind_some _ _).symm.trans H; with_reducible exact H2_) | with_reducible exact H | (rw [hy153]; exact H) | exact H
 have Ny153 := am hy153
 clear hy153
 replace H := Option.bind_eq_some_iff.mp H
 obtain ⟨t156, A70, H⟩ := H
 replace H : (some t156) = some r := H
 have A7 := am A70
 clear A70
 as_aux_lemma =>
  obtain rfl := Option.some.inj H
  go_enter Try.func27, Try.ntmps27
  try go_wp2_with (first | ((with_reducible refine gate_dst (N := 2) rfl ?_); refine box_event ?hg (N := 2) ?hd (cs := #[.int .i64 a0_0, .int .i64 a0_1, .int .i64 a0_2, .string a0_3, .slice A0_4 l0_4.length c0_4]) (t := 31) ?hr ?_; (case hd => rfl); (case hg => rfl); (case hr => first | (go_simp; done) | (go_simp; rfl)); intro gb145 hg w8 hbox hb; have BK145 := am hbox; have GW145 := gw (w := w) hg tB; have GE145 := GW145; replace HB := am (below_step tB hb); clear hb hbox hg))
  have n0_ := am (blk_drew BK145.out)
  have n1_ := am (below_drew1 HB.out)
  clear BK145
  clear HB
  have BK145 := n0_
  have HB := n1_
  clear n0_ n1_
  refine sr (n := 13) (S := fun w' => w'.cell? ⟨gb145, 0, none⟩ = some (.int .i64 a0_0) ∧ w'.cell? ⟨gb145, 1, none⟩ = some (.int .i64 a0_1) ∧ w'.cell? ⟨gb145, 2, none⟩ = some (.int .i64 a0_2) ∧ w'.cell? ⟨gb145, 3, none⟩ = some (.string a0_3) ∧ w'.cell? ⟨gb145, 4, none⟩ = some (.slice A0_4 l0_4.length c0_4)) (ds := []) ⟨(blk_cell BK145.out 0).trans rfl, (blk_cell BK145.out 1).trans rfl, (blk_cell BK145.out 2).trans rfl, (blk_cell BK145.out 3).trans rfl, (blk_cell BK145.out 4).trans rfl⟩ (fun hHeld => ?_); refine with_tabW impl_matchCode.tab1 impl_matchCode.bits1 (fun HT_ HW_ => ?_)
  generalize w8.drew = w9 at BK145 HB hHeld ⊢
  refine pure_ (i := 0) (N := some 5) (v := ?_) (a' := ?_) #[true, false, false, false, false, false, false, false, false, false, false, false, false] rfl rfl (any_of HT_.out (by kernel_rfl)) (fun _ _ _ h => h) (Or.inl ⟨by rfl, ?_⟩) ?_ ?_
  rotate_left
  ·
   intro w'
   go_simp
   with_reducible rfl
  rotate_left
  ·
   simp only [Act.put, List.setIfInBounds_toArray, List.set_cons_zero, List.set_cons_succ, i64_w, i32_w]
   rfl
  refine pure_ (i := 6) (N := some 11) (v := ?_) (a' := ?_) #[true, false, false, false, false, false, true, false, false, false, false, false, false] rfl rfl (any_of HT_.out (by kernel_rfl)) (fun _ _ _ h => h) (Or.inl ⟨by rfl, ?_⟩) ?_ ?_
  rotate_left
  ·
   intro w'
   go_simp
   with_reducible rfl
  rotate_left
  ·
   simp only [Act.put, List.setIfInBounds_toArray, List.set_cons_zero, List.set_cons_succ, i64_w, i32_w]
   rfl
  refine pure_ (i := 7) (N := some 12) (v := ?_) (a' := ?_) #[true, false, false, false, false, false, true, true, false, false, false, false, false] rfl rfl (any_of HT_.out (by kernel_rfl)) (fun _ _ _ h => h) (Or.inl ⟨by rfl, ?_⟩) ?_ ?_
  rotate_left
  ·
   intro w'
   go_simp
   with_reducible rfl
  rotate_left
  ·
   simp only [Act.put, List.setIfInBounds_toArray, List.set_cons_zero, List.set_cons_succ, i64_w, i32_w]
   rfl
  refine pure_ (i := 8) (N := some 13) (v := ?_) (a' := ?_) #[true, false, false, false, false, false, true, true, true, false, false, false, false] rfl rfl (any_of HT_.out (by kernel_rfl)) (fun _ _ _ h => h) (Or.inl ⟨by rfl, ?_⟩) ?_ ?_
  rotate_left
  ·
   intro w'
   go_simp
   with_reducible rfl
  rotate_left
  ·
   simp only [Act.put, List.setIfInBounds_toArray, List.set_cons_zero, List.set_cons_succ, i64_w, i32_w]
   rfl
  refine take_ (i := 3) (N := some 8) (v := ?_) (a' := ?_) #[true, false, false, true, false, false, true, true, true, false, false, false, false] rfl rfl (take_ofW HT_.out HW_.out (by kernel_rfl)) (fun _ _ _ h => h) (Or.inl ⟨by rfl, ?_⟩) hHeld ?_ ?_
  rotate_left
  ·
   rintro w' ⟨s0, s1, s2, s3, s4⟩
   go_simp
   with_reducible rfl
  rotate_left
  ·
   simp only [Act.put, List.setIfInBounds_toArray, List.set_cons_zero, List.set_cons_succ, i64_w, i32_w]
   rfl
  refine one_ (i := 1) (N := some 6) #[true, true, false, true, false, false, true, true, true, false, false, false, false] rfl rfl (one_of HT_.out (by kernel_rfl)) (by decide) (fun K hK => ?_)
  refine Kd.R_lit_step Kd.string _ 9 ?hg (N := 6) ?hd (xs := ([a1] : List ByteArray)) (inner := [.string a1]) (ok := fun _ => True) (okp := fun _ => True) ?hr ?hp (fun _ hk => hk) trivial (Below.refl _ _) (Nat.le_refl _) (by simp) ?_; (case hd => rfl); (case hg => rfl); (case hr => first | (go_simp; done) | (go_simp; rfl)); (case hp => exact (Reps.one (show Kd.M Kd.string _ _ _ a1 [.string a1] from rfl) (Reps.none _ _)))
  intro v147 w10 ho11 hb hg_ hnew_
  clear hg_ hnew_
  (first | rw [← Ny146.out] at ho11 | (simp only [Int.reduceToNat] at ho11; rw [← Ny146.out] at ho11))
  have n0_ := am (Kd.R_lower ho11 (below_size tG))
  have n1_ := am (blk_below (g := gb145) (o := .cells #[.int .i64 a0_0, .int .i64 a0_1, .int .i64 a0_2, .string a0_3, .slice A0_4 l0_4.length c0_4] 31 (0, 0)) tK hb)
  have n2_ := am (below_step tG hb)
  clear BK145
  clear HB
  have HO148 := n0_
  have BK145 := n1_
  have HB := n2_
  clear n0_ n1_ n2_
  clear hb ho11
  obtain ⟨Ao12, co12, eo12⟩ := Kd.R_slice HO148.out
  (first | subst eo12 | (injection eo12 with f1_ f2_ f3_; have f4_ := f1_.symm; have f5_ := f3_.symm; clear f1_ f2_ f3_; subst f4_; subst f5_))
  refine hK.out _ _ ⟨(blk_cell BK145.out 0).trans rfl, (blk_cell BK145.out 1).trans rfl, (blk_cell BK145.out 2).trans rfl, (blk_cell BK145.out 3).trans rfl, (blk_cell BK145.out 4).trans rfl⟩ (fun hHeld => ?_)
  clear hK K
  refine nm ?_
  refine one_ (i := 2) (N := some 7) #[true, true, true, true, false, false, true, true, true, false, false, false, false] rfl rfl (one_of HT_.out (by kernel_rfl)) (by decide) (fun K hK => ?_)
  refine goes_ Try.func42 (by kernel_rfl) rfl #[.slice Ao12 y146.length co12] (by rfl) rfl rfl tA ?_
  with_reducible refine (impl_long.calls k _ _ y146 t149 _ ?side1 ?side2 A3.out).mono ?_
  (case side1 => repeat (first | exact (Kd.R_reads' HO148.out).2.2 | (with_reducible refine Kd.C_alloc ?_ _) | (with_reducible refine Kd.C_drewN ?_ _) | (with_reducible refine Kd.C_drew ?_)))
  (case side2 => exact (Kd.R_reads' HO148.out).2.1)
  rintro e w' ⟨rfl, ⟨nd, rfl⟩⟩
  refine ⟨_, rfl, ?_⟩
  refine hK.out _ _ ⟨(blk_cell BK145.out 0).trans rfl, (blk_cell BK145.out 1).trans rfl, (blk_cell BK145.out 2).trans rfl, (blk_cell BK145.out 3).trans rfl, (blk_cell BK145.out 4).trans rfl⟩ (fun hHeld => ?_)
  clear hK K
  refine nm ?_
  refine one_ (i := 4) (N := some 9) #[true, true, true, true, true, false, true, true, true, false, false, false, false] rfl rfl (one_of HT_.out (by kernel_rfl)) (by decide) (fun K hK => ?_)
  refine goes_ Try.func43 (by kernel_rfl) rfl #[.agg #[.int .i64 a0_0, .int .i64 a0_1, .int .i64 a0_2, .string a0_3, .slice A0_4 l0_4.length c0_4]] (by rfl) rfl rfl tA ?_
  with_reducible refine (impl_RxOK.calls a0_0 a0_1 a0_2 a0_3 _ _ l0_4 t150 _ ?side1 ?side2 A4.out).mono ?_
  (case side1 => repeat (first | exact (Kd.C_below HR0_4.out tG) | (with_reducible refine Kd.C_alloc ?_ _) | (with_reducible refine Kd.C_drewN ?_ _) | (with_reducible refine Kd.C_drew ?_)))
  (case side2 => exact HC0_4.out)
  rintro e w13 ⟨rfl, hb⟩
  refine ⟨_, rfl, ?_⟩
  have n0_ := am (Kd.R_below (by (with_reducible repeat (first | apply Kd.R_alloc | apply Kd.R_drewN | apply Kd.R_drew)); exact HO148.out) hb)
  have n1_ := am (blk_below (g := gb145) (o := .cells #[.int .i64 a0_0, .int .i64 a0_1, .int .i64 a0_2, .string a0_3, .slice A0_4 l0_4.length c0_4] 31 (0, 0)) tK hb)
  have n2_ := am (below_step tG hb)
  clear HO148
  clear BK145
  clear HB
  have HO148 := n0_
  have BK145 := n1_
  have HB := n2_
  clear n0_ n1_ n2_
  (try clear hb)
  (try clear hb2)
  (try clear hk)
  (try clear hi)
  refine hK.out _ _ ⟨(blk_cell BK145.out 0).trans rfl, (blk_cell BK145.out 1).trans rfl, (blk_cell BK145.out 2).trans rfl, (blk_cell BK145.out 3).trans rfl, (blk_cell BK145.out 4).trans rfl⟩ (fun hHeld => ?_)
  clear hK K
  refine nm ?_
  refine one_ (i := 5) (N := some 10) #[true, true, true, true, true, true, true, true, true, false, false, false, false] rfl rfl (one_of HT_.out (by kernel_rfl)) (by decide) (fun K hK => ?_)
  refine goes_ Try.func28 (by kernel_rfl) rfl #[.bool t150, .int .i64 1] (by rfl) rfl rfl tA ?_
  with_reducible refine (impl_unless.calls t150 1 t151 _ A5.out).mono ?_
  rintro e w' ⟨rfl, ⟨nd, rfl⟩⟩
  refine ⟨_, rfl, ?_⟩
  refine hK.out _ _ ⟨(blk_cell BK145.out 0).trans rfl, (blk_cell BK145.out 1).trans rfl, (blk_cell BK145.out 2).trans rfl, (blk_cell BK145.out 3).trans rfl, (blk_cell BK145.out 4).trans rfl⟩ (fun hHeld => ?_)
  clear hK K
  refine nm ?_
  refine one_ (i := 9) (N := some 14) #[true, true, true, true, true, true, true, true, true, true, false, false, false] rfl rfl (one_of HT_.out (by kernel_rfl)) (by decide) (fun K hK => ?_)
  refine goes_ Try.func28 (by kernel_rfl) rfl #[.bool (decide ((a1.size : Int) ≤ 120)), .int .i64 14] (by rfl) rfl rfl tA ?_
  with_reducible refine (impl_unless.calls (decide ((a1.size : Int) ≤ 120)) 14 t152 _ A6.out).mono ?_
  rintro e w' ⟨rfl, ⟨nd, rfl⟩⟩
  refine ⟨_, rfl, ?_⟩
  refine hK.out _ _ ⟨(blk_cell BK145.out 0).trans rfl, (blk_cell BK145.out 1).trans rfl, (blk_cell BK145.out 2).trans rfl, (blk_cell BK145.out 3).trans rfl, (blk_cell BK145.out 4).trans rfl⟩ (fun hHeld => ?_)
  clear hK K
  refine nm ?_
  refine one_ (i := 10) (N := some 15) #[true, true, true, true, true, true, true, true, true, true, true, false, false] rfl rfl (one_of HT_.out (by kernel_rfl)) (by decide) (fun K hK => ?_)
  refine Kd.R_lit_step (Kd.int .i64) _ 3 ?hg (N := 15) ?hd (xs := ([t149, t151, t152] : List Int)) (inner := [.int .i64 t149, .int .i64 t151, .int .i64 t152]) (ok := fun _ => True) (okp := fun _ => True) ?hr ?hp (fun _ hk => hk) trivial (Below.refl _ _) (Nat.le_refl _) (by simp) ?_; (case hd => rfl); (case hg => rfl); (case hr => first | (go_simp; done) | (go_simp; rfl)); (case hp => exact (Reps.one (show Kd.M (Kd.int .i64) _ _ _ t149 [.int .i64 t149] from rfl) (Reps.one (show Kd.M (Kd.int .i64) _ _ _ t151 [.int .i64 t151] from rfl) (Reps.one (show Kd.M (Kd.int .i64) _ _ _ t152 [.int .i64 t152] from rfl) (Reps.none _ _)))))
  intro v154 w14 ho15 hb hg_ hnew_
  clear hg_ hnew_
  (first | rw [← Ny153.out] at ho15 | (simp only [Int.reduceToNat] at ho15; rw [← Ny153.out] at ho15))
  have n0_ := am (Kd.R_below (by (with_reducible repeat (first | apply Kd.R_alloc | apply Kd.R_drewN | apply Kd.R_drew)); exact HO148.out) hb)
  have n1_ := am (Kd.R_lower ho15 (below_size tG))
  have n2_ := am (blk_below (g := gb145) (o := .cells #[.int .i64 a0_0, .int .i64 a0_1, .int .i64 a0_2, .string a0_3, .slice A0_4 l0_4.length c0_4] 31 (0, 0)) tK hb)
  have n3_ := am (below_step tG hb)
  clear HO148
  clear BK145
  clear HB
  have HO148 := n0_
  have HO155 := n1_
  have BK145 := n2_
  have HB := n3_
  clear n0_ n1_ n2_ n3_
  clear hb ho15
  obtain ⟨Ao16, co16, eo16⟩ := Kd.R_slice HO155.out
  (first | subst eo16 | (injection eo16 with f1_ f2_ f3_; have f4_ := f1_.symm; have f5_ := f3_.symm; clear f1_ f2_ f3_; subst f4_; subst f5_))
  refine hK.out _ _ ⟨(blk_cell BK145.out 0).trans rfl, (blk_cell BK145.out 1).trans rfl, (blk_cell BK145.out 2).trans rfl, (blk_cell BK145.out 3).trans rfl, (blk_cell BK145.out 4).trans rfl⟩ (fun hHeld => ?_)
  clear hK K
  refine nm ?_
  refine one_ (i := 11) (N := some 16) #[true, true, true, true, true, true, true, true, true, true, true, true, false] rfl rfl (one_of HT_.out (by kernel_rfl)) (by decide) (fun K hK => ?_)
  refine goes_ Try.func26 (by kernel_rfl) rfl #[.slice Ao16 y153.length co16] (by rfl) rfl rfl tA ?_
  with_reducible refine (impl_first.calls k _ _ y153 t156 _ ?side1 ?side2 A7.out).mono ?_
  (case side1 => repeat (first | exact (Kd.R_reads' HO155.out).2.2 | (with_reducible refine Kd.C_alloc ?_ _) | (with_reducible refine Kd.C_drewN ?_ _) | (with_reducible refine Kd.C_drew ?_)))
  (case side2 => exact (Kd.R_reads' HO155.out).2.1)
  rintro e w' ⟨rfl, ⟨nd, rfl⟩⟩
  refine ⟨_, rfl, ?_⟩
  refine hK.out _ _ ⟨(blk_cell BK145.out 0).trans rfl, (blk_cell BK145.out 1).trans rfl, (blk_cell BK145.out 2).trans rfl, (blk_cell BK145.out 3).trans rfl, (blk_cell BK145.out 4).trans rfl⟩ (fun hHeld => ?_)
  clear hK K
  refine nm ?_
  refine pure_ (i := 12) (N := some 4) (v := ?_) (a' := ?_) #[true, true, true, true, true, true, true, true, true, true, true, true, true] rfl rfl (any_of HT_.out (by kernel_rfl)) (fun _ _ _ h => h) (Or.inl ⟨by rfl, ?_⟩) ?_ ?_
  rotate_left
  ·
   intro w'
   go_simp
   with_reducible rfl
  rotate_left
  ·
   simp only [Act.put, List.setIfInBounds_toArray, List.set_cons_zero, List.set_cons_succ, i64_w, i32_w]
   rfl
  refine dn HT_ ?_
  try go_wp2
  go_ret
  exact ⟨tE, tG⟩

-- NOT PRINTED: function 44 (impl_matcher_add)

-- NOT PRINTED: function 30 (impl_newMatcher)

-- NOT PRINTED: function 50 (impl_matcher_none)

def impl_contains.l0 : Nat → ByteArray → Int → Int → Int → Option (Bool)
 | 0, _, _, _, _ => none
 | k + 1, x0, x1, x7, x8 => if x8 < x7 then (if 0 ≤ x8 then (if x8 < (x0.size : Int) then (if (bt x0 x8) = x1 then (some true) else (impl_contains.l0 k x0 x1 x7 (wrap64 (x8 + 1)))) else (none)) else (none)) else (some false)
def impl_contains.f (k : Nat) (a0 : ByteArray) (a1 : Int) : Option (Bool) := impl_contains.l0 k a0 a1 (a0.size : Int) 0
theorem impl_contains.calls (k : Nat) (a0 : ByteArray) (a1 : Int) (r : Bool) (w : World) (h : impl_contains.f k a0 a1 = some r) :
  Calls Try.prog 52 #[.string a0, .int .u8 a1] w fun e w' => e = .returned (.bool r) ∧ Drawn0 w w' := by
 have H : (impl_contains.l0 k a0 a1 (a0.size : Int) 0) = some r := h
 clear h
 have H' := am H
 clear H
 go_enter Try.func52, Try.ntmps52
 go_wp2
 go_loopg [8] k (fun kq v8 w' => ∃ (x8_1 : Int), v8 = .int .i64 x8_1 ∧ Aside0 (impl_contains.l0 kq a0 a1 (a0.size : Int) x8_1 = some r) ∧ Aside0 (kq ≤ k) ∧ Drawn0 w w')
 case atStart => exact ⟨(0), fs, H', ⟨Nat.le_refl _⟩, dr⟩
 case round =>
  clear H'
  obtain ⟨x8_1, rfl, HA, HK1, ⟨m1, rfl⟩⟩ := hrel
  cases gk with
  | zero => exact absurd HA.out (by simp [impl_contains.l0])
  | succ k1 =>
   have H := HA.out
   clear HA
   simp only [impl_contains.l0] at H
   by_cases c3 : x8_1 < (a0.size : Int)
   ·
    rw [if_pos c3] at H
    have c3b0 : decide (x8_1 < (a0.size : Int)) = true := decide_eq_true c3
    clear c3
    by_cases c4 : 0 ≤ x8_1
    ·
     rw [if_pos c4] at H
     have c4b0 : decide (0 ≤ x8_1) = true := decide_eq_true c4
     clear c4
     by_cases c5 : x8_1 < (a0.size : Int)
     ·
      rw [if_pos c5] at H
      have c5b0 : decide (x8_1 < (a0.size : Int)) = true := decide_eq_true c5
      clear c5
      by_cases c7 : (bt a0 x8_1) = a1
      ·
       rw [if_pos c7] at H
       have c7b0 : ((bt a0 x8_1) == a1) = true := beq_iff_eq.mpr c7
       have c7b1 : ((bt a0 x8_1) != a1) = false := bne_eq_false_iff_eq.mpr c7
       clear c7
       as_aux_lemma =>
        obtain rfl := Option.some.inj H
        have p6 : 0 ≤ (x8_1 : Int) := od
        have q6 : x8_1 < (a0.size : Int) := od
        have hx6 := bt_at a0 x8_1
        replace p6 := eq_true p6
        replace q6 := eq_true q6
        go_wp2
        go_ret
        exact ⟨by first | rfl | (simp; done) | (simp [*]; done), dr⟩
      rw [if_neg c7] at H
      have c7b0 : ((bt a0 x8_1) == a1) = false := beq_eq_false_iff_ne.mpr c7
      have c7b1 : ((bt a0 x8_1) != a1) = true := bne_iff_ne.mpr c7
      as_aux_lemma =>
       have H' := am H
       clear H
       have p6 : 0 ≤ (x8_1 : Int) := od
       have q6 : x8_1 < (a0.size : Int) := od
       have hx6 := bt_at a0 x8_1
       replace p6 := eq_true p6
       replace q6 := eq_true q6
       go_wp2
       go_roundg k1
       case measure => have := HK1.out; omega
       case rel => exact ⟨(wrap64 (x8_1 + 1)), fs, H', ⟨by have := HK1.out; omega⟩, dr⟩
     rw [if_neg c5] at H
     exact absurd H (by simp)
    rw [if_neg c4] at H
    exact absurd H (by simp)
   rw [if_neg c3] at H
   have c3b0 : decide (x8_1 < (a0.size : Int)) = false := decide_eq_false c3
   clear c3
   as_aux_lemma =>
    obtain rfl := Option.some.inj H
    go_wp2
    go_ret
    exact ⟨by first | rfl | (simp; done) | (simp [*]; done), dr⟩

def impl_join.l0 : Nat → List Bool → List Bool → Int → Int → Option (List Bool)
 | 0, _, _, _, _ => none
 | k + 1, x0, x6, x7, x8 => if x8 < x7 then (if 0 ≤ x8 then (if x8 < (x6.length : Int) then (if x8 < (x0.length : Int) then (if rdOf false x0 x8 = true then (impl_join.l0 k (x0.set (x8 : Int).toNat true) x6 x7 (wrap64 (x8 + 1))) else (impl_join.l0 k (x0.set (x8 : Int).toNat (rdOf false x6 x8)) x6 x7 (wrap64 (x8 + 1)))) else (none)) else (none)) else (none)) else (some x0)
def impl_join.f (k : Nat) (l0 : List Bool) (l1 : List Bool) : Option (List Bool) := impl_join.l0 k l0 l1 (l1.length : Int) 0
theorem impl_join.calls (k : Nat) (P0_ : Nat → Prop) (u9000_ : Value) (l0 : List Bool) (A1 : Option Addr) (c1 : Nat) (l1 : List Bool) (r : List Bool) (w0 w : World) (hB : Below w0.heap.size w0 w) (ho0 : Kd.R Kd.bool 4 w w0.heap.size P0_ u9000_ l0) (hr1 : ∀ W_, Kept w W_ (fun k_ => P0_ k_) → Kd.C Kd.bool W_ A1 l1.length l1) (hc1 : l1.length ≤ c1) (h : impl_join.f k l0 l1 = some r) :
  Calls Try.prog 53 #[u9000_, .slice A1 l1.length c1] w fun e w' => e = .returned (.tuple #[]) ∧ Kd.R Kd.bool 4 w' w0.heap.size (fun k_ => (P0_ k_ ∨ w.heap.size ≤ k_)) u9000_ r ∧ Below w0.heap.size w0 w' ∧ Kept w w' (fun k_ => P0_ k_) := by
 have HO0 := am (show Kd.R Kd.bool 4 w w0.heap.size (fun k_ => (P0_ k_ ∨ w.heap.size ≤ k_)) u9000_ l0 from Kd.R_mono ho0 (fun k_ hk => (.inl hk)))
 have HR1 := am hr1
 have HC1 := am hc1
 clear hr1 hc1
 have HK := am (Kept.refl w (fun k_ => P0_ k_))
 have HW0 := am hB.size
 have HB := am hB
 clear hB
 have H : (impl_join.l0 k l0 l1 (l1.length : Int) 0) = some r := h
 clear h
 have H' := am H
 clear H
 go_enter Try.func53, Try.ntmps53
 go_wp2
 go_loopg [8] k (fun kq v8 w' => ∃ (x0_1 : List Bool) (x8_1 : Int), v8 = .int .i64 x8_1 ∧ Aside0 (impl_join.l0 kq x0_1 l1 (l1.length : Int) x8_1 = some r) ∧ Aside0 (kq ≤ k) ∧ Aside0 (Kd.R Kd.bool 4 w' w0.heap.size (fun k_ => (P0_ k_ ∨ w.heap.size ≤ k_)) u9000_ x0_1) ∧ Aside0 (Kept w w' (fun k_ => P0_ k_)) ∧ Aside0 (Below w0.heap.size w0 w'))
 case atStart => exact ⟨(l0), (0), fs, H', ⟨Nat.le_refl _⟩, ⟨by (with_reducible repeat (first | apply Kd.R_alloc | apply Kd.R_drewN | apply Kd.R_drew)); exact HO0.out⟩, ⟨by repeat (first | (with_reducible first | exact HK.out | apply Kept.alloc | apply Kept.drewN | apply Kept.drew) | exact HK.out)⟩, ⟨tB⟩⟩
 case round =>
  clear H'
  try clear c1
  obtain ⟨x0_1, x8_1, rfl, HA, HK1, HO_0, HK, HB⟩ := hrel
  cases gk with
  | zero => exact absurd HA.out (by simp [impl_join.l0])
  | succ k1 =>
   have H := HA.out
   clear HA
   simp only [impl_join.l0] at H
   by_cases c3 : x8_1 < (l1.length : Int)
   ·
    rw [if_pos c3] at H
    have c3b0 : decide (x8_1 < (l1.length : Int)) = true := decide_eq_true c3
    clear c3
    by_cases c4 : 0 ≤ x8_1
    ·
     rw [if_pos c4] at H
     have c4b0 : decide (0 ≤ x8_1) = true := decide_eq_true c4
     clear c4
     by_cases c5 : x8_1 < (l1.length : Int)
     ·
      rw [if_pos c5] at H
      have c5b0 : decide (x8_1 < (l1.length : Int)) = true := decide_eq_true c5
      clear c5
      by_cases c6 : x8_1 < (x0_1.length : Int)
      ·
       rw [if_pos c6] at H
       have c6b0 : decide (x8_1 < (x0_1.length : Int)) = true := decide_eq_true c6
       clear c6
       obtain ⟨bq7, hbq7⟩ : ∃ b_ : Bool, b_ = (rdOf false x0_1 x8_1) := ⟨_, rfl⟩
       replace H : (if bq7 = true then (impl_join.l0 k1 (x0_1.set (x8_1 : Int).toNat true) l1 (l1.length : Int) (wrap64 (x8_1 + 1))) else (impl_join.l0 k1 (x0_1.set (x8_1 : Int).toNat (rdOf false l1 x8_1)) l1 (l1.length : Int) (wrap64 (x8_1 + 1)))) = some r := by rw [← hbq7] at H; exact H
       have Nbq7 := am hbq7
       clear hbq7
       by_cases c8 : bq7 = true
       ·
        subst c8
        have H1 : (impl_join.l0 k1 (x0_1.set (x8_1 : Int).toNat true) l1 (l1.length : Int) (wrap64 (x8_1 + 1))) = some r := by rw [if_pos rfl] at H; exact H
        clear H
        have H := H1
        clear H1
        obtain ⟨y159, hy159⟩ : ∃ y_ : List Bool, y_ = (x0_1.set (x8_1 : Int).toNat true) := ⟨_, rfl⟩
        replace H : (impl_join.l0 k1 y159 l1 (l1.length : Int) (wrap64 (x8_1 + 1))) = some r := by first | (rw [hy159]; with_reducible exact H) | (have H2_ := (Option.bind_some _ _).symm.trans H; rw [hy159]; with_reducible exact H2_) | (have H2_ := (Option.bind_some _ _).symm.trans H; with_reducible exact H2_) | with_reducible exact H | (rw [hy159]; exact H) | exact H
        have Ny159 := am hy159
        clear hy159
        as_aux_lemma =>
         have H' := am H
         clear H
         have p157 : 0 ≤ (x8_1 : Int) := od
         have q157 : x8_1 < (l1.length : Int) := od
         obtain ⟨ad157, e157, hx157_0⟩ := Kd.at_bool (Kd.C_kept_now HR1.out HK.out) x8_1 p157 q157
         (try rw [← Nbq7.out] at hx157_0)
         cases e157
         replace p157 := eq_true p157
         replace q157 := eq_true q157
         obtain ⟨Ao10, co10, eo10⟩ := Kd.R_slice HO_0.out
         subst eo10
         have p158 : 0 ≤ (x8_1 : Int) := od
         have q158 : x8_1 < (x0_1.length : Int) := od
         obtain ⟨ad158, e158, hx158_0⟩ := Kd.at_bool (Kd.R_reads' HO_0.out).2.2 x8_1 p158 q158
         (try rw [← Nbq7.out] at hx158_0)
         cases e158
         replace p158 := eq_true p158
         replace q158 := eq_true q158
         have p9 : 0 ≤ (x8_1 : Int) := od
         have q9 : (x8_1 : Int) < ((x0_1.length : Int) : Int) := od
         obtain ⟨go9, co9, eo9, gb9, gl9, cl9, HG9⟩ := Kd.R_form HO_0.out (by omega)
         (first | cases eo9 | (injection eo9 with ea_ en_ ec_; (first | subst ea_ | (injection ea_ with ea_; subst ea_)); subst ec_; clear en_))
         have GB9 := am gb9
         have GG9 := am HG9
         clear gb9 gl9 HG9
         have HMgo9 := am (show (P0_ go9 ∨ w.heap.size ≤ go9) from (HO_0.out.1 _ rfl))
         (first | simp only [add_plain] at hx158_0 | skip)
         obtain ⟨hx9_0, hf9_0⟩ := Kd.R_celln false HO_0.out (x8_1 : Int) p9 q9
         replace p9 := eq_true p9
         replace q9 := eq_true q9
         have HP11 := Kd.R_putg HO_0.out (x8_1 : Int) true
         go_wp2_with (first | ((with_reducible refine gate_store (t := 4) (p := 22) rfl ?_); refine store_event (t := 4) (p := 22) (v := ?vo_w12) (w1 := (wr.setCell ⟨go9, (x8_1 : Int).toNat, none⟩ (.bool true))) ?hg ?ho ?hn ?hr ?_; (case ho => rfl); (case hg => rfl); (case hn => rfl); (case hr => first | (go_simp; done) | (go_simp; rfl)); intro w12 hw; have hg : wr.grownBy w12 (some go9) := (by rw [hw]; exact HP11.2); have hp_ : Kd.R Kd.bool 4 w12 w0.heap.size (fun k_ => (P0_ k_ ∨ w.heap.size ≤ k_)) (.slice (some ⟨go9, 0, none⟩) x0_1.length co10) y159 := (by rw [hw, Ny159.out]; exact HP11.1); clear HP11; have n0_ := am (hp_); have n1_ := am ((by rw [hw]; exact below_set (HB.out) GB9.out : Below w0.heap.size w0 w12)); have n2_ := am (Kept.of_grown (S := (fun k_ => P0_ k_)) hg (by repeat (first | (with_reducible first | exact HK.out | apply Kept.alloc | apply Kept.drewN | apply Kept.drew) | exact HK.out)) (fun k_ e_ => (HO_0.out.1 k_ e_))); clear HO_0; clear HB; clear HK; have HO_0 := n0_; have HB := n1_; have HK := n2_; clear n0_ n1_ n2_; clear hg hw hp_))
         go_roundg k1
         case measure => have := HK1.out; omega
         case rel => exact ⟨(y159), (wrap64 (x8_1 + 1)), fs, H', ⟨by have := HK1.out; omega⟩, ⟨by (with_reducible repeat (first | apply Kd.R_alloc | apply Kd.R_drewN | apply Kd.R_drew)); exact HO_0.out⟩, ⟨by repeat (first | (with_reducible first | exact HK.out | apply Kept.alloc | apply Kept.drewN | apply Kept.drew) | exact HK.out)⟩, ⟨tB⟩⟩
       replace c8 := Bool.eq_false_iff.mpr c8
       subst c8
       have H1 : (impl_join.l0 k1 (x0_1.set (x8_1 : Int).toNat (rdOf false l1 x8_1)) l1 (l1.length : Int) (wrap64 (x8_1 + 1))) = some r := by rw [if_neg (show ¬ (false = true) by decide)] at H; exact H
       clear H
       have H := H1
       clear H1
       obtain ⟨y160, hy160⟩ : ∃ y_ : List Bool, y_ = (x0_1.set (x8_1 : Int).toNat (rdOf false l1 x8_1)) := ⟨_, rfl⟩
       replace H : (impl_join.l0 k1 y160 l1 (l1.length : Int) (wrap64 (x8_1 + 1))) = some r := by first | (rw [hy160]; with_reducible exact H) | (have H2_ := (Option.bind_some _ _).symm.trans H; rw [hy160]; with_reducible exact H2_) | (have H2_ := (Option.bind_some _ _).symm.trans H; with_reducible exact H2_) | with_reducible exact H | (rw [hy160]; exact H) | exact H
       have Ny160 := am hy160
       clear hy160
       as_aux_lemma =>
        have H' := am H
        clear H
        have p157 : 0 ≤ (x8_1 : Int) := od
        have q157 : x8_1 < (l1.length : Int) := od
        obtain ⟨ad157, e157, hx157_0⟩ := Kd.at_bool (Kd.C_kept_now HR1.out HK.out) x8_1 p157 q157
        (try rw [← Nbq7.out] at hx157_0)
        cases e157
        replace p157 := eq_true p157
        replace q157 := eq_true q157
        obtain ⟨Ao14, co14, eo14⟩ := Kd.R_slice HO_0.out
        subst eo14
        have p158 : 0 ≤ (x8_1 : Int) := od
        have q158 : x8_1 < (x0_1.length : Int) := od
        obtain ⟨ad158, e158, hx158_0⟩ := Kd.at_bool (Kd.R_reads' HO_0.out).2.2 x8_1 p158 q158
        (try rw [← Nbq7.out] at hx158_0)
        cases e158
        replace p158 := eq_true p158
        replace q158 := eq_true q158
        have p13 : 0 ≤ (x8_1 : Int) := od
        have q13 : (x8_1 : Int) < ((x0_1.length : Int) : Int) := od
        obtain ⟨go13, co13, eo13, gb13, gl13, cl13, HG13⟩ := Kd.R_form HO_0.out (by omega)
        (first | cases eo13 | (injection eo13 with ea_ en_ ec_; (first | subst ea_ | (injection ea_ with ea_; subst ea_)); subst ec_; clear en_))
        have GB13 := am gb13
        have GG13 := am HG13
        clear gb13 gl13 HG13
        have HMgo13 := am (show (P0_ go13 ∨ w.heap.size ≤ go13) from (HO_0.out.1 _ rfl))
        (first | simp only [add_plain] at hx158_0 | skip)
        obtain ⟨hx13_0, hf13_0⟩ := Kd.R_celln false HO_0.out (x8_1 : Int) p13 q13
        replace p13 := eq_true p13
        replace q13 := eq_true q13
        have HP15 := Kd.R_putg HO_0.out (x8_1 : Int) (rdOf false l1 x8_1)
        go_wp2_with (first | ((with_reducible refine gate_store (t := 4) (p := 22) rfl ?_); refine store_event (t := 4) (p := 22) (v := ?vo_w16) (w1 := (wr.setCell ⟨go13, (x8_1 : Int).toNat, none⟩ (.bool (rdOf false l1 x8_1)))) ?hg ?ho ?hn ?hr ?_; (case ho => rfl); (case hg => rfl); (case hn => rfl); (case hr => first | (go_simp; done) | (go_simp; rfl)); intro w16 hw; have hg : wr.grownBy w16 (some go13) := (by rw [hw]; exact HP15.2); have hp_ : Kd.R Kd.bool 4 w16 w0.heap.size (fun k_ => (P0_ k_ ∨ w.heap.size ≤ k_)) (.slice (some ⟨go13, 0, none⟩) x0_1.length co14) y160 := (by rw [hw, Ny160.out]; exact HP15.1); clear HP15; have n0_ := am (hp_); have n1_ := am ((by rw [hw]; exact below_set (HB.out) GB13.out : Below w0.heap.size w0 w16)); have n2_ := am (Kept.of_grown (S := (fun k_ => P0_ k_)) hg (by repeat (first | (with_reducible first | exact HK.out | apply Kept.alloc | apply Kept.drewN | apply Kept.drew) | exact HK.out)) (fun k_ e_ => (HO_0.out.1 k_ e_))); clear HO_0; clear HB; clear HK; have HO_0 := n0_; have HB := n1_; have HK := n2_; clear n0_ n1_ n2_; clear hg hw hp_))
        go_roundg k1
        case measure => have := HK1.out; omega
        case rel => exact ⟨(y160), (wrap64 (x8_1 + 1)), fs, H', ⟨by have := HK1.out; omega⟩, ⟨by (with_reducible repeat (first | apply Kd.R_alloc | apply Kd.R_drewN | apply Kd.R_drew)); exact HO_0.out⟩, ⟨by repeat (first | (with_reducible first | exact HK.out | apply Kept.alloc | apply Kept.drewN | apply Kept.drew) | exact HK.out)⟩, ⟨tB⟩⟩
      rw [if_neg c6] at H
      exact absurd H (by simp)
     rw [if_neg c5] at H
     exact absurd H (by simp)
    rw [if_neg c4] at H
    exact absurd H (by simp)
   rw [if_neg c3] at H
   have c3b0 : decide (x8_1 < (l1.length : Int)) = false := decide_eq_false c3
   clear c3
   focus
    obtain rfl := Option.some.inj H
    go_wp2
    first | go_end0 | ((try simp only [Exit.inBlock, Exit.then]); refine bodyPost_ret (results_none rfl _ _ _) rfl ?_)
    exact ⟨tE, by (with_reducible repeat (first | apply Kd.R_alloc | apply Kd.R_drewN | apply Kd.R_drew)); exact HO_0.out, tB, by repeat (first | (with_reducible first | exact HK.out | apply Kept.alloc | apply Kept.drewN | apply Kept.drew) | exact HK.out)⟩

-- NOT PRINTED: function 54 (impl_matcher_onward)

-- NOT PRINTED: function 38 (impl_matcher_from)

section
open Go.Proofs.Ytlpabbcgichaoaa.Lawful
def impl_groupsOf.f (a0_0 : Int) (a0_1 : Int) (a0_2 : Int) (a0_3 : ByteArray) (l0_4 : List S31) : Option Int := some (impl_looker.g ⟨a0_0, a0_1, a0_2, a0_3, l0_4⟩ 0 0 false).2.2.1
theorem impl_groupsOf.calls (a0_0 : Int) (a0_1 : Int) (a0_2 : Int) (a0_3 : ByteArray) (A0_4 : Option Addr) (c0_4 : Nat) (l0_4 : List (S31)) (r : Int) (w : World) (hr0_4 : Kd.C k31 w A0_4 l0_4.length l0_4) (hc0_4 : l0_4.length ≤ c0_4) (h : impl_groupsOf.f a0_0 a0_1 a0_2 a0_3 l0_4 = some r) :
  Calls Try.prog 45 #[.agg #[.int .i64 a0_0, .int .i64 a0_1, .int .i64 a0_2, .string a0_3, .slice A0_4 l0_4.length c0_4]] w fun e w' => e = .returned (.int .i64 r) ∧ Below w.heap.size w w' := by
 have hu := Try.underlying31
 have hu2 := Try.underlying97
 have HB := am (Below.refl w.heap.size w)
 have HR := am hr0_4
 have HC := am hc0_4
 have HE := am (show (impl_looker.g ⟨a0_0, a0_1, a0_2, a0_3, l0_4⟩ 0 0 false).2.2.1 = r from Option.some.inj h)
 clear hr0_4 hc0_4 h
 obtain ⟨⟨r1, r2, r3, r4⟩, hrr⟩ : ∃ r_, r_ = (impl_looker.g ⟨a0_0, a0_1, a0_2, a0_3, l0_4⟩ 0 0 false) := ⟨_, rfl⟩
 have IHC := am (show ∀ (PG : Nat → Prop) (gG : Nat) (ws' : World), Below w.heap.size w ws' → w.heap.size ≤ gG → LB ws' PG gG 97 #[.int .i64 0, .int .i64 0, .bool false] → Calls Try.prog 59 #[.pointer (some ⟨gG, 0, none⟩), .agg #[.int .i64 a0_0, .int .i64 a0_1, .int .i64 a0_2, .string a0_3, .slice A0_4 l0_4.length c0_4]] ws' fun e w' => e = .returned (.int .i64 r1) ∧ LB w' PG gG 97 #[.int .i64 r2, .int .i64 r3, .bool r4] ∧ Below w.heap.size w w' ∧ Kept ws' w' PG from fun PG gG ws' h1_ h4_ h2_ => by have h3_ := impl_looker_weight.any _ ⟨a0_0, a0_1, a0_2, a0_3, l0_4⟩ (Nat.le_refl _) PG gG A0_4 c0_4 0 0 false w ws' h1_ h4_ h2_ HR.out HC.out; rw [← hrr] at h3_; exact h3_)
 rw [← hrr] at HE
 clear hrr
 go_enter Try.func45, Try.ntmps45
 go_wp2_with (first | ((with_reducible refine gate_dst (N := 1) rfl ?_); refine bx_ (N := 1) (cs := #[.int .i64 a0_0, .int .i64 a0_1, .int .i64 a0_2, .string a0_3, .slice A0_4 l0_4.length c0_4]) (t := 31) rfl rfl ?hr_25 ?_; (case hr_25 => first | (go_simp; done) | (go_simp; rfl)); intro gX8 hg w2 hb hk PX8 hPX8 HX8; have GEX8 := am (gen_ hg HB.out); replace HB := am (below_step HB.out hb); clear hb hk hg hPX8; replace jX8 := HX8.out.c5) | ((with_reducible refine gate_dst (N := 5) rfl ?_); refine bx_ (N := 5) (cs := #[.int .i64 0, .int .i64 0, .bool false]) (t := 97) rfl rfl ?hr_26 ?_; (case hr_26 => first | (go_simp; done) | (go_simp; rfl)); intro gX9 hg w2 hb hk PX9 hPX9 HX9; have GEX9 := am (gen_ hg HB.out); have D_X8_X9 := na hPX9 HX8; replace HX8 := sn hk HX8; replace HB := am (below_step HB.out hb); clear hb hk hg hPX9; replace jX8 := HX8.out.c5; replace jX9 := HX9.out.c3) | ((with_reducible refine gate_dst (N := 8) rfl ?_); refine goesL_ (some 8) rfl rfl Try.func59 (by kernel_rfl) rfl #[.pointer (some ⟨gX9, 0, none⟩), .agg #[.int .i64 a0_0, .int .i64 a0_1, .int .i64 a0_2, .string a0_3, .slice A0_4 l0_4.length c0_4]] rfl (by (try simp only [List.map_toArray, List.map_cons, List.map_nil]); first | done | rfl) ?_; (with_reducible refine (IHC.out PX9 gX9 _ HB.out GEX9.out HX9.out).mono ?_); rintro e w2 ⟨rfl, hg2, hb2, hk2⟩; refine ⟨_, rfl, ?_⟩; replace HX8 := ss hk2 HX8 D_X8_X9.out; replace HB := am hb2; replace HX9 := am hg2; clear hk2 hb2 hg2; replace jX8 := HX8.out.c5; replace jX9 := HX9.out.c3))
 go_ret
 exact ⟨by rw [← HE.out]; rfl, HB.out⟩
end

-- NOT PRINTED: function 46 (impl_matcher_part)

-- NOT PRINTED: function 31 (impl_matcher_find)

-- NOT PRINTED: function 9 (impl_Find)

def laws_eqIntS.l0 : Nat → List Int → List Int → Int → Option (Bool)
 | 0, _, _, _ => none
 | k + 1, x0, x1, x5 => if x5 < (x0.length : Int) then (if 0 ≤ x5 then (if x5 < (x1.length : Int) then (if (rd x0 x5) = (rd x1 x5) then (laws_eqIntS.l0 k x0 x1 (wrap64 (x5 + 1))) else (some false)) else (none)) else (none)) else (some true)
def laws_eqIntS.f (k : Nat) (l0 : List Int) (l1 : List Int) : Option (Bool) := if (l0.length : Int) = (l1.length : Int) then (laws_eqIntS.l0 k l0 l1 0) else (some false)
theorem laws_eqIntS.calls (k : Nat) (A0 : Option Addr) (c0 : Nat) (l0 : List Int) (A1 : Option Addr) (c1 : Nat) (l1 : List Int) (r : Bool) (w : World) (hr0 : Kd.C (Kd.int .i64) w A0 l0.length l0) (hc0 : l0.length ≤ c0) (hr1 : Kd.C (Kd.int .i64) w A1 l1.length l1) (hc1 : l1.length ≤ c1) (h : laws_eqIntS.f k l0 l1 = some r) :
  Calls Try.prog 10 #[.slice A0 l0.length c0, .slice A1 l1.length c1] w fun e w' => e = .returned (.bool r) ∧ Drawn0 w w' := by
 have HR0 := am hr0
 have HC0 := am hc0
 clear hr0 hc0
 have HR1 := am hr1
 have HC1 := am hc1
 clear hr1 hc1
 have H : (if (l0.length : Int) = (l1.length : Int) then (laws_eqIntS.l0 k l0 l1 0) else (some false)) = some r := h
 clear h
 by_cases c3 : (l0.length : Int) = (l1.length : Int)
 ·
  rw [if_pos c3] at H
  have c3b0 : ((l0.length : Int) == (l1.length : Int)) = true := beq_iff_eq.mpr c3
  have c3b1 : ((l0.length : Int) != (l1.length : Int)) = false := bne_eq_false_iff_eq.mpr c3
  have c3b2 : (l0.length == l1.length) = true := by first | simpa using c3 | (simp at c3 ⊢; omega)
  clear c3
  have H' := am H
  clear H
  go_enter Try.func10, Try.ntmps10
  go_wp2
  repeat (go_quiet (fail); try go_wp2)
  go_loopg [5] k (fun kq v5 w' => ∃ (x5_1 : Int), v5 = .int .i64 x5_1 ∧ Aside0 (laws_eqIntS.l0 kq l0 l1 x5_1 = some r) ∧ Aside0 (kq ≤ k) ∧ Drawn0 w w')
  case atStart => exact ⟨(0), fs, H', ⟨Nat.le_refl _⟩, dr⟩
  case round =>
   clear H'
   try clear c1
   try clear c3
   try clear c3b0
   try clear c3b1
   try clear c3b2
   obtain ⟨x5_1, rfl, HA, HK1, ⟨m1, rfl⟩⟩ := hrel
   cases gk with
   | zero => exact absurd HA.out (by simp [laws_eqIntS.l0])
   | succ k1 =>
    have H := HA.out
    clear HA
    simp only [laws_eqIntS.l0] at H
    by_cases c4 : x5_1 < (l0.length : Int)
    ·
     rw [if_pos c4] at H
     have c4b0 : decide (x5_1 < (l0.length : Int)) = true := decide_eq_true c4
     clear c4
     by_cases c5 : 0 ≤ x5_1
     ·
      rw [if_pos c5] at H
      have c5b0 : decide (0 ≤ x5_1) = true := decide_eq_true c5
      clear c5
      by_cases c6 : x5_1 < (l1.length : Int)
      ·
       rw [if_pos c6] at H
       have c6b0 : decide (x5_1 < (l1.length : Int)) = true := decide_eq_true c6
       clear c6
       by_cases c7 : (rd l0 x5_1) = (rd l1 x5_1)
       ·
        rw [if_pos c7] at H
        have c7b0 : ((rd l0 x5_1) == (rd l1 x5_1)) = true := beq_iff_eq.mpr c7
        have c7b1 : ((rd l0 x5_1) != (rd l1 x5_1)) = false := bne_eq_false_iff_eq.mpr c7
        clear c7
        as_aux_lemma =>
         have H' := am H
         clear H
         have p169 : 0 ≤ (x5_1 : Int) := od
         have q169 : x5_1 < (l0.length : Int) := od
         obtain ⟨ad169, e169, hx169_0⟩ := Kd.at_int HR0.out x5_1 p169 q169
         cases e169
         replace p169 := eq_true p169
         replace q169 := eq_true q169
         have p170 : 0 ≤ (x5_1 : Int) := od
         have q170 : x5_1 < (l1.length : Int) := od
         obtain ⟨ad170, e170, hx170_0⟩ := Kd.at_int HR1.out x5_1 p170 q170
         cases e170
         replace p170 := eq_true p170
         replace q170 := eq_true q170
         go_wp2
         repeat (go_quiet (fail); try go_wp2)
         go_roundg k1
         case measure => have := HK1.out; omega
         case rel => exact ⟨(wrap64 (x5_1 + 1)), fs, H', ⟨by have := HK1.out; omega⟩, dr⟩
       rw [if_neg c7] at H
       have c7b0 : ((rd l0 x5_1) == (rd l1 x5_1)) = false := beq_eq_false_iff_ne.mpr c7
       have c7b1 : ((rd l0 x5_1) != (rd l1 x5_1)) = true := bne_iff_ne.mpr c7
       as_aux_lemma =>
        obtain rfl := Option.some.inj H
        have p169 : 0 ≤ (x5_1 : Int) := od
        have q169 : x5_1 < (l0.length : Int) := od
        obtain ⟨ad169, e169, hx169_0⟩ := Kd.at_int HR0.out x5_1 p169 q169
        cases e169
        replace p169 := eq_true p169
        replace q169 := eq_true q169
        have p170 : 0 ≤ (x5_1 : Int) := od
        have q170 : x5_1 < (l1.length : Int) := od
        obtain ⟨ad170, e170, hx170_0⟩ := Kd.at_int HR1.out x5_1 p170 q170
        cases e170
        replace p170 := eq_true p170
        replace q170 := eq_true q170
        go_wp2
        repeat (go_quiet (fail); try go_wp2)
        go_ret
        exact ⟨by first | rfl | (simp; done) | (simp [*]; done), dr⟩
      rw [if_neg c6] at H
      exact absurd H (by simp)
     rw [if_neg c5] at H
     exact absurd H (by simp)
    rw [if_neg c4] at H
    have c4b0 : decide (x5_1 < (l0.length : Int)) = false := decide_eq_false c4
    clear c4
    as_aux_lemma =>
     obtain rfl := Option.some.inj H
     go_wp2
     repeat (go_quiet (fail); try go_wp2)
     go_ret
     exact ⟨by first | rfl | (simp; done) | (simp [*]; done), dr⟩
 rw [if_neg c3] at H
 have c3b0 : ((l0.length : Int) == (l1.length : Int)) = false := beq_eq_false_iff_ne.mpr c3
 have c3b1 : ((l0.length : Int) != (l1.length : Int)) = true := bne_iff_ne.mpr c3
 have c3b2 : (l0.length == l1.length) = false := by first | simpa using c3 | (simp at c3 ⊢; omega)
 as_aux_lemma =>
  obtain rfl := Option.some.inj H
  go_enter Try.func10, Try.ntmps10
  go_wp2
  repeat (go_quiet (fail); try go_wp2)
  go_ret
  exact ⟨by first | rfl | (simp; done) | (simp [*]; done), dr⟩

end Go.Proofs.Ytlpabbcgichaoaa.PFnExactFind
