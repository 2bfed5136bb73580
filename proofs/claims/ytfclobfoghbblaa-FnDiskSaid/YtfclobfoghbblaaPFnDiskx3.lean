-- written by a program of this session (a copy of the print, widened: wip/patchprint.py)
import Derived.Test.YtfclobfoghbblaaPFnDiskx0
import Derived.Test.YtfclobfoghbblaaPFnDiskx2
import Derived.Test.YtfclobfoghbblaaHw
import Derived.Deep.RegionHeld3
import Derived.Deep.Cut
namespace Go.Proofs.Ytfclobfoghbblaa.PFnDisk
open Go.RowKit Go.Proofs.Ytfclobfoghbblaa.Lawful Go.Proofs.YtfclobfoghbblaaW.PrintWords Go.Proofs.YtfclobfoghbblaaW.PrintLast Go.Proofs.YtfclobfoghbblaaW.PrintMore
attribute [local go_sem] max2_int min2_int max_two min_two max_three min_three max_four min_four   -- for this text's walks alone
set_option linter.unusedVariables false
set_option linter.unusedSimpArgs false

/-! ### spec_l00Src_next: function 101 -/
def spec_l00Src_next.f (s0_0 : List Int) (s0_1 : Int) (s0_2 : Int) (a1 : Int) : Option (Int × Int × Int) := if a1 ≤ 1 then (some (0, s0_1, s0_2)) else (if a1 ≤ 256 then ((spec_l00Src_byte.f s0_0 s0_1 s0_2).bind fun bt195 => (if a1 = 0 then (none) else (some (Int.tmod bt195.1 a1, bt195.2.1, bt195.2.2)))) else ((spec_l00Src_byte.f s0_0 s0_1 s0_2).bind fun bt198 => ((spec_l00Src_byte.f s0_0 bt198.2.1 bt198.2.2).bind fun bt201 => ((spec_l00Src_byte.f s0_0 bt201.2.1 bt201.2.2).bind fun bt204 => (if a1 = 0 then (none) else (some (Int.tmod (wrap64 ((wrap64 ((wrap64 (bt198.1 * 65536)) + (wrap64 (bt201.1 * 256)))) + bt204.1)) a1, bt204.2.1, bt204.2.2)))))))
set_option maxHeartbeats 8000000 in
set_option maxRecDepth 100000 in
theorem spec_l00Src_next.calls (g : Nat) (s0_0 : List Int) (s0_1 : Int) (s0_2 : Int) (a1 : Int) (r1 : Int) (r2 : Int) (r3 : Int) (w0 w : World) (hI : IsS134 w0 w g s0_0 s0_1 s0_2) (hB : Below w0.heap.size w0 w) (h : spec_l00Src_next.f s0_0 s0_1 s0_2 a1 = some (r1, r2, r3)) :
    Calls Try.prog 101 #[.pointer (some ⟨g, 0, none⟩), .int .i64 a1] w fun e w' => e = .returned (.int .i64 r1) ∧ IsS134 w0 w' g s0_0 r2 r3 ∧ Below w0.heap.size w0 w' ∧ KeepBut w w' g none := by
  have HI0 := Aside0.mk hI
  have HK := Aside0.mk (KeepBut.refl w g none)
  have HL := Aside0.mk hB.size
  clear hI
  have HW0 := Aside0.mk hB.size
  have HB := Aside0.mk hB
  clear hB
  have H : (if a1 ≤ 1 then (some (0, s0_1, s0_2)) else (if a1 ≤ 256 then ((spec_l00Src_byte.f s0_0 s0_1 s0_2).bind fun bt195 => (if a1 = 0 then (none) else (some (Int.tmod bt195.1 a1, bt195.2.1, bt195.2.2)))) else ((spec_l00Src_byte.f s0_0 s0_1 s0_2).bind fun bt198 => ((spec_l00Src_byte.f s0_0 bt198.2.1 bt198.2.2).bind fun bt201 => ((spec_l00Src_byte.f s0_0 bt201.2.1 bt201.2.2).bind fun bt204 => (if a1 = 0 then (none) else (some (Int.tmod (wrap64 ((wrap64 ((wrap64 (bt198.1 * 65536)) + (wrap64 (bt201.1 * 256)))) + bt204.1)) a1, bt204.2.1, bt204.2.2)))))))) = some (r1, r2, r3) := h
  clear h
  by_cases c3 : a1 ≤ 1
  · rw [if_pos c3] at H
    have c3b0 : decide (a1 ≤ 1) = true := decide_eq_true c3
    clear c3
    simp only [Option.some.injEq, Prod.mk.injEq] at H
    obtain ⟨rfl, rfl, rfl⟩ := H
    go_enter Try.func101, Try.ntmps101
    go_wp2
    go_ret
    exact ⟨by first | rfl | (simp [errW_none, errW_some] <;> rfl) | (simp [*, errW_none, errW_some] <;> rfl), by repeat (first | (with_reducible first | exact HI0.out | apply IsS134.alloc | apply IsS134.drewN | apply IsS134.drew | apply IsS134.set_1 | apply IsS134.set_2) | exact HI0.out), by repeat (first | (with_reducible first | exact HB.out | apply below_alloc | apply pw_below_drewN | apply below_drew1 | refine below_set ?_ (IsS134.ge HI0.out)) | exact HB.out), by repeat (first | (with_reducible first | exact HK.out | apply KeepBut.set_ | apply keep_drewN | apply keep_drew | apply keep_alloc) | exact HK.out)⟩
  · rw [if_neg c3] at H
    have c3b0 : decide (a1 ≤ 1) = false := decide_eq_false c3
    clear c3
    by_cases c4 : a1 ≤ 256
    · rw [if_pos c4] at H
      have c4b0 : decide (a1 ≤ 256) = true := decide_eq_true c4
      clear c4
      replace H := Option.bind_eq_some_iff.mp H
      obtain ⟨⟨t195, t196, t197⟩, A50, H⟩ := H
      replace H : (if a1 = 0 then (none) else (some (Int.tmod t195 a1, t196, t197))) = some (r1, r2, r3) := H
      have A5 := Aside0.mk A50
      clear A50
      by_cases c6 : a1 = 0
      · rw [if_pos c6] at H
        exact absurd H (by simp)
      · rw [if_neg c6] at H
        have c6b0 : (a1 == 0) = false := beq_eq_false_iff_ne.mpr c6
        have c6b1 : (a1 != 0) = true := bne_iff_ne.mpr c6
        simp only [Option.some.injEq, Prod.mk.injEq] at H
        obtain ⟨rfl, rfl, rfl⟩ := H
        go_enter Try.func101, Try.ntmps101
        go_wp2_with (first | ((with_reducible refine gate_callee (f := 118) rfl ?_); refine goesL_ (some 13) rfl rfl Try.func118 (by kernel_rfl) rfl #[.pointer (some ⟨g, 0, none⟩)] rfl (by (try simp only [List.map_toArray, List.map_cons, List.map_nil]); first | done | rfl | (simp only [List.length_drop, List.length_take]; rfl)) ?_; (with_reducible refine (spec_l00Src_byte.calls g s0_0 s0_1 s0_2 t195 t196 t197 w0 _ ?side1 ?side2 A5.out).mono ?_); (case side1 => repeat (first | (with_reducible first | exact HI0.out | apply IsS134.alloc | apply IsS134.drewN | apply IsS134.drew | apply IsS134.set_1 | apply IsS134.set_2) | exact HI0.out)); (case side2 => repeat (first | (with_reducible first | exact HB.out | apply below_alloc | apply pw_below_drewN | apply below_drew1 | refine below_set ?_ (IsS134.ge HI0.out)) | exact HB.out)); rintro e w7 ⟨rfl, hi, hb, hk⟩; refine ⟨_, rfl, ?_⟩; have n0_ := Aside0.mk (KeepBut.trans (by repeat (first | (with_reducible first | exact HK.out | apply KeepBut.set_ | apply keep_drewN | apply keep_drew | apply keep_alloc) | exact HK.out)) hk (.inl rfl)); have n1_ := Aside0.mk (hb); have n2_ := Aside0.mk (hi); clear HK; clear HB; clear HI0; have HK := n0_; have HB := n1_; have HI0 := n2_; clear n0_ n1_ n2_; (try clear hb); (try clear hb2); (try clear hk); (try clear hi)))
        go_ret
        exact ⟨by first | rfl | (simp [errW_none, errW_some] <;> rfl) | (simp [*, errW_none, errW_some] <;> rfl), by repeat (first | (with_reducible first | exact HI0.out | apply IsS134.alloc | apply IsS134.drewN | apply IsS134.drew | apply IsS134.set_1 | apply IsS134.set_2) | exact HI0.out), by repeat (first | (with_reducible first | exact HB.out | apply below_alloc | apply pw_below_drewN | apply below_drew1 | refine below_set ?_ (IsS134.ge HI0.out)) | exact HB.out), by repeat (first | (with_reducible first | exact HK.out | apply KeepBut.set_ | apply keep_drewN | apply keep_drew | apply keep_alloc) | exact HK.out)⟩
    · rw [if_neg c4] at H
      have c4b0 : decide (a1 ≤ 256) = false := decide_eq_false c4
      clear c4
      replace H := Option.bind_eq_some_iff.mp H
      obtain ⟨⟨t198, t199, t200⟩, A80, H⟩ := H
      replace H : ((spec_l00Src_byte.f s0_0 t199 t200).bind fun bt201 => ((spec_l00Src_byte.f s0_0 bt201.2.1 bt201.2.2).bind fun bt204 => (if a1 = 0 then (none) else (some (Int.tmod (wrap64 ((wrap64 ((wrap64 (t198 * 65536)) + (wrap64 (bt201.1 * 256)))) + bt204.1)) a1, bt204.2.1, bt204.2.2))))) = some (r1, r2, r3) := H
      have A8 := Aside0.mk A80
      clear A80
      replace H := Option.bind_eq_some_iff.mp H
      obtain ⟨⟨t201, t202, t203⟩, A90, H⟩ := H
      replace H : ((spec_l00Src_byte.f s0_0 t202 t203).bind fun bt204 => (if a1 = 0 then (none) else (some (Int.tmod (wrap64 ((wrap64 ((wrap64 (t198 * 65536)) + (wrap64 (t201 * 256)))) + bt204.1)) a1, bt204.2.1, bt204.2.2)))) = some (r1, r2, r3) := H
      have A9 := Aside0.mk A90
      clear A90
      replace H := Option.bind_eq_some_iff.mp H
      obtain ⟨⟨t204, t205, t206⟩, A100, H⟩ := H
      replace H : (if a1 = 0 then (none) else (some (Int.tmod (wrap64 ((wrap64 ((wrap64 (t198 * 65536)) + (wrap64 (t201 * 256)))) + t204)) a1, t205, t206))) = some (r1, r2, r3) := H
      have A10 := Aside0.mk A100
      clear A100
      by_cases c11 : a1 = 0
      · rw [if_pos c11] at H
        exact absurd H (by simp)
      · rw [if_neg c11] at H
        have c11b0 : (a1 == 0) = false := beq_eq_false_iff_ne.mpr c11
        have c11b1 : (a1 != 0) = true := bne_iff_ne.mpr c11
        simp only [Option.some.injEq, Prod.mk.injEq] at H
        obtain ⟨rfl, rfl, rfl⟩ := H
        go_enter Try.func101, Try.ntmps101
        go_wp2_with (first | ((with_reducible refine gate_callee (f := 118) rfl ?_); refine goesL_ (some 17) rfl rfl Try.func118 (by kernel_rfl) rfl #[.pointer (some ⟨g, 0, none⟩)] rfl (by (try simp only [List.map_toArray, List.map_cons, List.map_nil]); first | done | rfl | (simp only [List.length_drop, List.length_take]; rfl)) ?_; (with_reducible refine (spec_l00Src_byte.calls g s0_0 s0_1 s0_2 t198 t199 t200 w0 _ ?side1 ?side2 A8.out).mono ?_); (case side1 => repeat (first | (with_reducible first | exact HI0.out | apply IsS134.alloc | apply IsS134.drewN | apply IsS134.drew | apply IsS134.set_1 | apply IsS134.set_2) | exact HI0.out)); (case side2 => repeat (first | (with_reducible first | exact HB.out | apply below_alloc | apply pw_below_drewN | apply below_drew1 | refine below_set ?_ (IsS134.ge HI0.out)) | exact HB.out)); rintro e w12 ⟨rfl, hi, hb, hk⟩; refine ⟨_, rfl, ?_⟩; have n0_ := Aside0.mk (KeepBut.trans (by repeat (first | (with_reducible first | exact HK.out | apply KeepBut.set_ | apply keep_drewN | apply keep_drew | apply keep_alloc) | exact HK.out)) hk (.inl rfl)); have n1_ := Aside0.mk (hb); have n2_ := Aside0.mk (hi); clear HK; clear HB; clear HI0; have HK := n0_; have HB := n1_; have HI0 := n2_; clear n0_ n1_ n2_; (try clear hb); (try clear hb2); (try clear hk); (try clear hi)) | ((with_reducible refine gate_callee (f := 118) rfl ?_); refine goesL_ (some 19) rfl rfl Try.func118 (by kernel_rfl) rfl #[.pointer (some ⟨g, 0, none⟩)] rfl (by (try simp only [List.map_toArray, List.map_cons, List.map_nil]); first | done | rfl | (simp only [List.length_drop, List.length_take]; rfl)) ?_; (with_reducible refine (spec_l00Src_byte.calls g s0_0 t199 t200 t201 t202 t203 w0 _ ?side1 ?side2 A9.out).mono ?_); (case side1 => repeat (first | (with_reducible first | exact HI0.out | apply IsS134.alloc | apply IsS134.drewN | apply IsS134.drew | apply IsS134.set_1 | apply IsS134.set_2) | exact HI0.out)); (case side2 => repeat (first | (with_reducible first | exact HB.out | apply below_alloc | apply pw_below_drewN | apply below_drew1 | refine below_set ?_ (IsS134.ge HI0.out)) | exact HB.out)); rintro e w13 ⟨rfl, hi, hb, hk⟩; refine ⟨_, rfl, ?_⟩; have n0_ := Aside0.mk (KeepBut.trans (by repeat (first | (with_reducible first | exact HK.out | apply KeepBut.set_ | apply keep_drewN | apply keep_drew | apply keep_alloc) | exact HK.out)) hk (.inl rfl)); have n1_ := Aside0.mk (hb); have n2_ := Aside0.mk (hi); clear HK; clear HB; clear HI0; have HK := n0_; have HB := n1_; have HI0 := n2_; clear n0_ n1_ n2_; (try clear hb); (try clear hb2); (try clear hk); (try clear hi)) | ((with_reducible refine gate_callee (f := 118) rfl ?_); refine goesL_ (some 21) rfl rfl Try.func118 (by kernel_rfl) rfl #[.pointer (some ⟨g, 0, none⟩)] rfl (by (try simp only [List.map_toArray, List.map_cons, List.map_nil]); first | done | rfl | (simp only [List.length_drop, List.length_take]; rfl)) ?_; (with_reducible refine (spec_l00Src_byte.calls g s0_0 t202 t203 t204 t205 t206 w0 _ ?side1 ?side2 A10.out).mono ?_); (case side1 => repeat (first | (with_reducible first | exact HI0.out | apply IsS134.alloc | apply IsS134.drewN | apply IsS134.drew | apply IsS134.set_1 | apply IsS134.set_2) | exact HI0.out)); (case side2 => repeat (first | (with_reducible first | exact HB.out | apply below_alloc | apply pw_below_drewN | apply below_drew1 | refine below_set ?_ (IsS134.ge HI0.out)) | exact HB.out)); rintro e w14 ⟨rfl, hi, hb, hk⟩; refine ⟨_, rfl, ?_⟩; have n0_ := Aside0.mk (KeepBut.trans (by repeat (first | (with_reducible first | exact HK.out | apply KeepBut.set_ | apply keep_drewN | apply keep_drew | apply keep_alloc) | exact HK.out)) hk (.inl rfl)); have n1_ := Aside0.mk (hb); have n2_ := Aside0.mk (hi); clear HK; clear HB; clear HI0; have HK := n0_; have HB := n1_; have HI0 := n2_; clear n0_ n1_ n2_; (try clear hb); (try clear hb2); (try clear hk); (try clear hi)))
        go_ret
        exact ⟨by first | rfl | (simp [errW_none, errW_some] <;> rfl) | (simp [*, errW_none, errW_some] <;> rfl), by repeat (first | (with_reducible first | exact HI0.out | apply IsS134.alloc | apply IsS134.drewN | apply IsS134.drew | apply IsS134.set_1 | apply IsS134.set_2) | exact HI0.out), by repeat (first | (with_reducible first | exact HB.out | apply below_alloc | apply pw_below_drewN | apply below_drew1 | refine below_set ?_ (IsS134.ge HI0.out)) | exact HB.out), by repeat (first | (with_reducible first | exact HK.out | apply KeepBut.set_ | apply keep_drewN | apply keep_drew | apply keep_alloc) | exact HK.out)⟩

/-! ### spec_l00Src_size: function 102 -/
def spec_l00Src_size.f (s0_0 : List Int) (s0_1 : Int) (s0_2 : Int) (a1 : Int) : Option (Int × Int × Int) := some (mn (wrap64 (1 + (wrap64 ((s0_0.length : Int) / 12)))) a1, s0_1, s0_2)
set_option maxHeartbeats 8000000 in
set_option maxRecDepth 100000 in
theorem spec_l00Src_size.calls (g : Nat) (s0_0 : List Int) (s0_1 : Int) (s0_2 : Int) (a1 : Int) (r1 : Int) (r2 : Int) (r3 : Int) (w0 w : World) (hI : IsS134 w0 w g s0_0 s0_1 s0_2) (hB : Below w0.heap.size w0 w) (h : spec_l00Src_size.f s0_0 s0_1 s0_2 a1 = some (r1, r2, r3)) :
    Calls Try.prog 102 #[.pointer (some ⟨g, 0, none⟩), .int .i64 a1] w fun e w' => e = .returned (.int .i64 r1) ∧ IsS134 w0 w' g s0_0 r2 r3 ∧ Below w0.heap.size w0 w' ∧ KeepBut w w' g none := by
  have HI0 := Aside0.mk hI
  have HK := Aside0.mk (KeepBut.refl w g none)
  have HL := Aside0.mk hB.size
  clear hI
  have HW0 := Aside0.mk hB.size
  have HB := Aside0.mk hB
  clear hB
  have H : (some (mn (wrap64 (1 + (wrap64 ((s0_0.length : Int) / 12)))) a1, s0_1, s0_2)) = some (r1, r2, r3) := h
  clear h
  obtain ⟨ji3, hji3⟩ : ∃ j_ : Int, (mn (wrap64 (1 + (wrap64 ((s0_0.length : Int) / 12)))) a1) = j_ := ⟨_, rfl⟩
  replace H : (some (ji3, s0_1, s0_2)) = some (r1, r2, r3) := by first | (rw [hji3] at H; exact H) | (simp only [hji3] at H ⊢; exact H)
  have hji3_ : (if a1 < (wrap64 (1 + (wrap64 ((s0_0.length : Int) / 12)))) then a1 else (wrap64 (1 + (wrap64 ((s0_0.length : Int) / 12))))) = ji3 := hji3
  simp only [Option.some.injEq, Prod.mk.injEq] at H
  obtain ⟨rfl, rfl, rfl⟩ := H
  obtain ⟨ASz4_0, cSz4_0, HGz4, hgz4, HSz4_0⟩ := HI0.out
  have hcz4_0 := cellS134_0 HGz4
  have hcz4_1 := cellS134_1 HGz4
  have hcz4_2 := cellS134_2 HGz4
  have hfz4_1 := blk_frozen HGz4 1
  have hfz4_2 := blk_frozen HGz4 2
  clear HGz4 hgz4
  go_enter Try.func102, Try.ntmps102
  go_wp2
  go_ret
  exact ⟨by first | rfl | (simp [errW_none, errW_some] <;> rfl) | (simp only [← hji3]; first | rfl | (simp [errW_none, errW_some] <;> rfl)) | (simp [*, errW_none, errW_some] <;> rfl), by repeat (first | (with_reducible first | exact HI0.out | apply IsS134.alloc | apply IsS134.drewN | apply IsS134.drew | apply IsS134.set_1 | apply IsS134.set_2) | exact HI0.out), by repeat (first | (with_reducible first | exact HB.out | apply below_alloc | apply pw_below_drewN | apply below_drew1 | refine below_set ?_ (IsS134.ge HI0.out)) | exact HB.out), by repeat (first | (with_reducible first | exact HK.out | apply KeepBut.set_ | apply keep_drewN | apply keep_drew | apply keep_alloc) | exact HK.out)⟩

/-! ### spec_l00Src_bytes: function 103 -/
def spec_l00Src_bytes.l0 : Nat → List Int → Int → List Int → Int → Int → Option (List Int × Int × Int)
  | 0, _, _, _, _, _ => none
  | k + 1, x5, x6, x1000, x1001, x1002 => if x6 > 0 then ((spec_l00Src_next.f x1000 x1001 x1002 256).bind fun bt213 => (if x5.length < 140737488355328 then (spec_l00Src_bytes.l0 k (x5 ++ [(bt213.1) % 256]) (wrap64 (x6 - 1)) x1000 bt213.2.1 bt213.2.2) else (none))) else (some (x5, x1001, x1002))
def spec_l00Src_bytes.f (k : Nat) (s0_0 : List Int) (s0_1 : Int) (s0_2 : Int) (a1 : Int) : Option (List Int × Int × Int) := (spec_l00Src_next.f s0_0 s0_1 s0_2 (wrap64 (a1 + 1))).bind fun bt210 => (spec_l00Src_bytes.l0 k (([] : List Int)) bt210.1 s0_0 bt210.2.1 bt210.2.2)
theorem spec_l00Src_bytes.mono_l : ∀ k, (∀ y0 y1 y2 y3 y4, LeO (spec_l00Src_bytes.l0 k y0 y1 y2 y3 y4) (spec_l00Src_bytes.l0 (k + 1) y0 y1 y2 y3 y4))
  | 0 => fun _ _ _ _ _ r h => by simp [spec_l00Src_bytes.l0] at h
  | k + 1 => by
    have ih0 := spec_l00Src_bytes.mono_l k
    · intro y0 y1 y2 y3 y4
      unfold spec_l00Src_bytes.l0
      repeat' first
      | (with_reducible exact ih0 _ _ _ _ _)
      | (with_reducible exact LeO.refl _)
      | (with_reducible exact LeO.none _)
      | (with_reducible refine LeO.ite ?_ ?_)
      | (with_reducible refine LeO.bind ?_ (fun _ => ?_))
      | exact ih0 _ _ _ _ _
      | exact LeO.none _
      | refine LeO.ite ?_ ?_
      | refine LeO.bind ?_ (fun _ => ?_)
theorem spec_l00Src_bytes.mono : ∀ a0 a1 a2 a3 k, LeO (spec_l00Src_bytes.f k a0 a1 a2 a3) (spec_l00Src_bytes.f (k + 1) a0 a1 a2 a3) := by
  intro a0 a1 a2 a3 k
  have ih0 := spec_l00Src_bytes.mono_l k
  unfold spec_l00Src_bytes.f
  repeat' first
      | (with_reducible exact ih0 _ _ _ _ _)
      | (with_reducible exact LeO.refl _)
      | (with_reducible exact LeO.none _)
      | (with_reducible refine LeO.ite ?_ ?_)
      | (with_reducible refine LeO.bind ?_ (fun _ => ?_))
      | exact ih0 _ _ _ _ _
      | exact LeO.none _
      | refine LeO.ite ?_ ?_
      | refine LeO.bind ?_ (fun _ => ?_)
set_option maxHeartbeats 8000000 in
set_option maxRecDepth 100000 in
theorem spec_l00Src_bytes.calls (k : Nat) (g : Nat) (s0_0 : List Int) (s0_1 : Int) (s0_2 : Int) (a1 : Int) (r1 : List Int) (r2 : Int) (r3 : Int) (w0 w : World) (hI : IsS134 w0 w g s0_0 s0_1 s0_2) (hB : Below w0.heap.size w0 w) (h : spec_l00Src_bytes.f k s0_0 s0_1 s0_2 a1 = some (r1, r2, r3)) :
    Calls Try.prog 103 #[.pointer (some ⟨g, 0, none⟩), .int .i64 a1] w fun e w' => ∃ v0_ : Value, e = .returned (v0_) ∧ Kd.R (Kd.int .u8) 5 w' w.heap.size (fun _ => True) v0_ r1 ∧ IsS134 w0 w' g s0_0 r2 r3 ∧ Below w0.heap.size w0 w' ∧ KeepBut w w' g none := by
  have HI0 := Aside0.mk hI
  have HK := Aside0.mk (KeepBut.refl w g none)
  have HL := Aside0.mk hB.size
  clear hI
  have HW0 := Aside0.mk hB.size
  have HB := Aside0.mk hB
  clear hB
  have H : ((spec_l00Src_next.f s0_0 s0_1 s0_2 (wrap64 (a1 + 1))).bind fun bt210 => (spec_l00Src_bytes.l0 k (([] : List Int)) bt210.1 s0_0 bt210.2.1 bt210.2.2)) = some (r1, r2, r3) := h
  clear h
  obtain ⟨y207, hy207⟩ : ∃ y_ : List Int, y_ = (([] : List Int)) := ⟨_, rfl⟩
  replace H : ((spec_l00Src_next.f s0_0 s0_1 s0_2 (wrap64 (a1 + 1))).bind fun bt210 => (spec_l00Src_bytes.l0 k y207 bt210.1 s0_0 bt210.2.1 bt210.2.2)) = some (r1, r2, r3) := by first | (rw [hy207]; with_reducible exact H) | (have H2_ := (Option.bind_some _ _).symm.trans H; rw [hy207]; with_reducible exact H2_) | (have H2_ := (Option.bind_some _ _).symm.trans H; with_reducible exact H2_) | with_reducible exact H | (rw [hy207]; exact H) | exact H
  have Ny207 := Aside0.mk hy207
  clear hy207
  replace H := Option.bind_eq_some_iff.mp H
  obtain ⟨⟨t210, t211, t212⟩, A30, H⟩ := H
  replace H : (spec_l00Src_bytes.l0 k y207 t210 s0_0 t211 t212) = some (r1, r2, r3) := H
  have A3 := Aside0.mk A30
  clear A30
  have H' := Aside0.mk H
  clear H
  go_enter Try.func103, Try.ntmps103
  go_wp2_with (first | ((with_reducible refine gate_dst (N := 7) rfl ?_); refine Kd.R_lit (Kd.int .u8) _ 5 ?hg (N := 7) ?hd (xs := ([] : List Int)) (inner := []) (ok := fun _ => True) (okp := fun _ => True) ?hr ?hp (fun _ hk => hk) trivial (Below.refl _ _) (Nat.le_refl _) (by simp) ?_; (case hd => rfl); (case hg => rfl); (case hr => first | (go_simp; done) | (go_simp; rfl)); (case hp => exact (Reps.none _ _)); intro v208 w4 ho5 hb hg_ hnew_; clear hg_ hnew_; (first | rw [← Ny207.out] at ho5 | (simp only [Int.reduceToNat] at ho5; rw [← Ny207.out] at ho5)); have n0_ := Aside0.mk (Kd.R_lower ho5 (keep_size (w := w) (g := g) (row := none) (by repeat (first | (with_reducible first | exact HK.out | apply KeepBut.set_ | apply keep_drewN | apply keep_drew | apply keep_alloc) | exact HK.out)))); have n1_ := Aside0.mk (IsS134.below (by repeat (first | (with_reducible first | exact HI0.out | apply IsS134.alloc | apply IsS134.drewN | apply IsS134.drew | apply IsS134.set_1 | apply IsS134.set_2) | exact HI0.out)) hb); have n2_ := Aside0.mk (KeepBut.trans (by repeat (first | (with_reducible first | exact HK.out | apply KeepBut.set_ | apply keep_drewN | apply keep_drew | apply keep_alloc) | exact HK.out)) (KeepBut.of_below hb g none) (.inl rfl)); have n3_ := Aside0.mk (below_step (by repeat (first | (with_reducible first | exact HB.out | apply below_alloc | apply pw_below_drewN | apply below_drew1 | refine below_set ?_ (IsS134.ge HI0.out)) | exact HB.out)) hb); clear HI0; clear HK; clear HB; have HO209 := n0_; have HI0 := n1_; have HK := n2_; have HB := n3_; clear n0_ n1_ n2_ n3_; clear hb ho5) | ((with_reducible refine gate_callee (f := 101) rfl ?_); refine goesL_ (some 11) rfl rfl Try.func101 (by kernel_rfl) rfl #[.pointer (some ⟨g, 0, none⟩), .int .i64 (wrap64 (a1 + 1))] rfl (by (try simp only [List.map_toArray, List.map_cons, List.map_nil]); first | done | rfl | (simp only [List.length_drop, List.length_take]; rfl)) ?_; (with_reducible refine (spec_l00Src_next.calls g s0_0 s0_1 s0_2 (wrap64 (a1 + 1)) t210 t211 t212 w0 _ ?side1 ?side2 A3.out).mono ?_); (case side1 => repeat (first | (with_reducible first | exact HI0.out | apply IsS134.alloc | apply IsS134.drewN | apply IsS134.drew | apply IsS134.set_1 | apply IsS134.set_2) | exact HI0.out)); (case side2 => repeat (first | (with_reducible first | exact HB.out | apply below_alloc | apply pw_below_drewN | apply below_drew1 | refine below_set ?_ (IsS134.ge HI0.out)) | exact HB.out)); rintro e w6 ⟨rfl, hi, hb, hk⟩; refine ⟨_, rfl, ?_⟩; have n0_ := Aside0.mk (Kd.R_mono (Kd.R_keep (IsS134.apart (show IsS134 w0 _ g s0_0 s0_1 s0_2 from by repeat (first | (with_reducible first | exact HI0.out | apply IsS134.alloc | apply IsS134.drewN | apply IsS134.drew | apply IsS134.set_1 | apply IsS134.set_2) | exact HI0.out)) (by (with_reducible repeat (first | apply Kd.R_alloc | apply Kd.R_drewN | apply Kd.R_drew)); exact HO209.out) (by decide)) hk (fun _ h => h.2)) (fun _ h => h.1)); have n1_ := Aside0.mk (KeepBut.trans (by repeat (first | (with_reducible first | exact HK.out | apply KeepBut.set_ | apply keep_drewN | apply keep_drew | apply keep_alloc) | exact HK.out)) hk (.inl rfl)); have n2_ := Aside0.mk (hb); have n3_ := Aside0.mk (hi); clear HO209; clear HK; clear HB; clear HI0; have HO209 := n0_; have HK := n1_; have HB := n2_; have HI0 := n3_; clear n0_ n1_ n2_ n3_; (try clear hb); (try clear hb2); (try clear hk); (try clear hi)))
  go_loopg [5, 6] k (fun kq v5 v6 w' => ∃ (x5_1 : List Int) (x6_1 : Int) (x1001_1 : Int) (x1002_1 : Int), v6 = .int .i64 x6_1 ∧ Aside0 (spec_l00Src_bytes.l0 kq x5_1 x6_1 s0_0 x1001_1 x1002_1 = some (r1, r2, r3)) ∧ Aside0 (kq ≤ k) ∧ Aside0 (Kd.R (Kd.int .u8) 5 w' w.heap.size (fun _ => True) v5 x5_1) ∧ Aside0 (IsS134 w0 w' g s0_0 x1001_1 x1002_1) ∧ Aside0 (KeepBut w w' g none) ∧ Aside0 (Below w0.heap.size w0 w'))
  case atStart => exact ⟨(y207), (t210), (t211), (t212), (by first | rfl | (simp; done) | (simp [*]; done)), H', ⟨Nat.le_refl _⟩, ⟨by (with_reducible repeat (first | apply Kd.R_alloc | apply Kd.R_drewN | apply Kd.R_drew)); exact HO209.out⟩, ⟨by repeat (first | (with_reducible first | exact HI0.out | apply IsS134.alloc | apply IsS134.drewN | apply IsS134.drew | apply IsS134.set_1 | apply IsS134.set_2) | exact HI0.out)⟩, ⟨by repeat (first | (with_reducible first | exact HK.out | apply KeepBut.set_ | apply keep_drewN | apply keep_drew | apply keep_alloc) | exact HK.out)⟩, ⟨by repeat (first | (with_reducible first | exact HB.out | apply below_alloc | apply pw_below_drewN | apply below_drew1 | refine below_set ?_ (IsS134.ge HI0.out)) | exact HB.out)⟩⟩
  case round =>
    clear H'
    try clear c1
    try clear p2
    try clear p6
    obtain ⟨x5_1, x6_1, x1001_1, x1002_1, rfl, HA, HK1, HO_5, HI0, HK, HB⟩ := hrel
    cases gk with
    | zero => exact absurd HA.out (by simp [spec_l00Src_bytes.l0])
    | succ k1 =>
      have H := HA.out
      clear HA
      simp only [spec_l00Src_bytes.l0] at H
      by_cases c7 : x6_1 > 0
      · rw [if_pos c7] at H
        have c7b0 : decide (0 < x6_1) = true := decide_eq_true c7
        clear c7
        replace H := Option.bind_eq_some_iff.mp H
        obtain ⟨⟨t213, t214, t215⟩, A80, H⟩ := H
        replace H : (if x5_1.length < 140737488355328 then (spec_l00Src_bytes.l0 k1 (x5_1 ++ [(t213) % 256]) (wrap64 (x6_1 - 1)) s0_0 t214 t215) else (none)) = some (r1, r2, r3) := H
        have A8 := Aside0.mk A80
        clear A80
        by_cases c9 : x5_1.length < 140737488355328
        · rw [if_pos c9] at H
          have LMc9 := Aside0.mk c9
          clear c9
          obtain ⟨y216, hy216⟩ : ∃ y_ : List Int, y_ = (x5_1 ++ [(t213) % 256]) := ⟨_, rfl⟩
          replace H : (spec_l00Src_bytes.l0 k1 y216 (wrap64 (x6_1 - 1)) s0_0 t214 t215) = some (r1, r2, r3) := by first | (rw [hy216]; with_reducible exact H) | (have H2_ := (Option.bind_some _ _).symm.trans H; rw [hy216]; with_reducible exact H2_) | (have H2_ := (Option.bind_some _ _).symm.trans H; with_reducible exact H2_) | with_reducible exact H | (rw [hy216]; exact H) | exact H
          have Ny216 := Aside0.mk hy216
          clear hy216
          have H' := Aside0.mk H
          clear H
          go_wp2_with (first | ((with_reducible refine gate_callee (f := 101) rfl ?_); refine goesL_ (some 18) rfl rfl Try.func101 (by kernel_rfl) rfl #[.pointer (some ⟨g, 0, none⟩), .int .i64 256] rfl (by (try simp only [List.map_toArray, List.map_cons, List.map_nil]); first | done | rfl | (simp only [List.length_drop, List.length_take]; rfl)) ?_; (with_reducible refine (spec_l00Src_next.calls g s0_0 x1001_1 x1002_1 256 t213 t214 t215 w0 _ ?side1 ?side2 A8.out).mono ?_); (case side1 => repeat (first | (with_reducible first | exact HI0.out | apply IsS134.alloc | apply IsS134.drewN | apply IsS134.drew | apply IsS134.set_1 | apply IsS134.set_2) | exact HI0.out)); (case side2 => repeat (first | (with_reducible first | exact HB.out | apply below_alloc | apply pw_below_drewN | apply below_drew1 | refine below_set ?_ (IsS134.ge HI0.out)) | exact HB.out)); rintro e w10 ⟨rfl, hi, hb, hk⟩; refine ⟨_, rfl, ?_⟩; have n0_ := Aside0.mk (Kd.R_mono (Kd.R_keep (IsS134.apart (show IsS134 w0 _ g s0_0 x1001_1 x1002_1 from by repeat (first | (with_reducible first | exact HI0.out | apply IsS134.alloc | apply IsS134.drewN | apply IsS134.drew | apply IsS134.set_1 | apply IsS134.set_2) | exact HI0.out)) (by (with_reducible repeat (first | apply Kd.R_alloc | apply Kd.R_drewN | apply Kd.R_drew)); exact HO_5.out) (by decide)) hk (fun _ h => h.2)) (fun _ h => h.1)); have n1_ := Aside0.mk (KeepBut.trans (by repeat (first | (with_reducible first | exact HK.out | apply KeepBut.set_ | apply keep_drewN | apply keep_drew | apply keep_alloc) | exact HK.out)) hk (.inl rfl)); have n2_ := Aside0.mk (hb); have n3_ := Aside0.mk (hi); clear HO_5; clear HK; clear HB; clear HI0; have HO_5 := n0_; have HK := n1_; have HB := n2_; have HI0 := n3_; clear n0_ n1_ n2_ n3_; (try clear hb); (try clear hb2); (try clear hk); (try clear hi)) | ((with_reducible refine gate_builtin (b := .append) (xs := #[.tmp 16, .tmp 20]) rfl ?_); at_builtin; refine Kd.R_append (Kd.int .u8) w.heap.size rfl (.tmp 16) (.tmp 20) 22 5 (.int .u8 0) 1 rfl Try.underlying22 info5 rfl (by decide) (by omega) u5 x5_1 ((t213) % 256) [.int .u8 ((t213) % 256)] (fun _ => True) (fun _ => False) rfl rfl ?aP (fun _ hk => hk.elim) ?aF ?aO (Below.refl _ _) ?aS ?aL ?_; (case aP => exact rfl); (case aF => exact (fun _ _ => trivial)); (case aO => exact (by (with_reducible repeat (first | apply Kd.R_alloc | apply Kd.R_drewN | apply Kd.R_drew)); exact HO_5.out)); (case aS => exact (keep_size (w := w) (g := g) (row := none) (by repeat (first | (with_reducible first | exact HK.out | apply KeepBut.set_ | apply keep_drewN | apply keep_drew | apply keep_alloc) | exact HK.out)))); (case aL => have := LMc9.out; omega); intro v217 w11 ho hb hg hat; rw [← Ny216.out] at ho; have n0_ := Aside0.mk (IsS134.grown (by repeat (first | (with_reducible first | exact HI0.out | apply IsS134.alloc | apply IsS134.drewN | apply IsS134.drew | apply IsS134.set_1 | apply IsS134.set_2) | exact HI0.out)) hg (IsS134.own_ne HI0.out HO_5.out (by decide))); have n1_ := Aside0.mk (below_weaken (by repeat (first | (with_reducible first | exact HB.out | apply below_alloc | apply pw_below_drewN | apply below_drew1 | refine below_set ?_ (IsS134.ge HI0.out)) | exact HB.out)) HL.out hb); have n2_ := Aside0.mk (KeepBut.trans (by repeat (first | (with_reducible first | exact HK.out | apply KeepBut.set_ | apply keep_drewN | apply keep_drew | apply keep_alloc) | exact HK.out)) (KeepBut.of_grown hg g) (Kd.R_base2 HO_5.out)); have n3_ := Aside0.mk (ho); clear HI0; clear HB; clear HK; clear HO_5; have HI0 := n0_; have HB := n1_; have HK := n2_; have HO218 := n3_; clear n0_ n1_ n2_ n3_; clear ho hb hg hat))
          go_roundg k1
          case measure => have := HK1.out; omega
          case rel => exact ⟨(y216), (wrap64 (x6_1 - 1)), (t214), (t215), (by first | rfl | (simp; done) | (simp [*]; done)), H', ⟨by have := HK1.out; omega⟩, ⟨by (with_reducible repeat (first | apply Kd.R_alloc | apply Kd.R_drewN | apply Kd.R_drew)); exact HO218.out⟩, ⟨by repeat (first | (with_reducible first | exact HI0.out | apply IsS134.alloc | apply IsS134.drewN | apply IsS134.drew | apply IsS134.set_1 | apply IsS134.set_2) | exact HI0.out)⟩, ⟨by repeat (first | (with_reducible first | exact HK.out | apply KeepBut.set_ | apply keep_drewN | apply keep_drew | apply keep_alloc) | exact HK.out)⟩, ⟨by repeat (first | (with_reducible first | exact HB.out | apply below_alloc | apply pw_below_drewN | apply below_drew1 | refine below_set ?_ (IsS134.ge HI0.out)) | exact HB.out)⟩⟩
        · rw [if_neg c9] at H
          exact absurd H (by simp)
      · rw [if_neg c7] at H
        have c7b0 : decide (0 < x6_1) = false := decide_eq_false c7
        clear c7
        simp only [Option.some.injEq, Prod.mk.injEq] at H
        obtain ⟨rfl, rfl, rfl⟩ := H
        go_wp2
        go_ret
        exact ⟨_, by first | rfl | (simp [errW_none, errW_some] <;> rfl) | (simp [*, errW_none, errW_some] <;> rfl), by (with_reducible repeat (first | apply Kd.R_alloc | apply Kd.R_drewN | apply Kd.R_drew)); exact HO_5.out, by repeat (first | (with_reducible first | exact HI0.out | apply IsS134.alloc | apply IsS134.drewN | apply IsS134.drew | apply IsS134.set_1 | apply IsS134.set_2) | exact HI0.out), by repeat (first | (with_reducible first | exact HB.out | apply below_alloc | apply pw_below_drewN | apply below_drew1 | refine below_set ?_ (IsS134.ge HI0.out)) | exact HB.out), by repeat (first | (with_reducible first | exact HK.out | apply KeepBut.set_ | apply keep_drewN | apply keep_drew | apply keep_alloc) | exact HK.out)⟩

/-! ### spec_l00Src_diskActs: function 74 -/
mutual
def spec_l00Src_diskActs.l0 : Nat → List (S100) → Int → List Int → Int → Int → Option ((List (S100)) × Int × Int)
  | 0, _, _, _, _, _ => none
  | k + 1, x3, x4, x1000, x1001, x1002 => if x4 > 0 then ((spec_l00Src_bytes.f k x1000 x1001 x1002 8).bind fun bt228 => ((spec_l00Src_next.f x1000 bt228.2.1 bt228.2.2 8).bind fun bt234 => (if bt234.1 = 0 then (spec_l00Src_diskActs.j1 k x3 x4 bt234.1 (bt234.1 == 0) x1000 bt234.2.1 bt234.2.2 1 0 0 bt228.1) else (spec_l00Src_diskActs.j1 k x3 x4 bt234.1 (bt234.1 == 1) x1000 bt234.2.1 bt234.2.2 1 0 0 bt228.1)))) else (some (x3, x1001, x1002))
def spec_l00Src_diskActs.j1 : Nat → List (S100) → Int → Int → Bool → List Int → Int → Int → Int → Int → Int → List Int → Option ((List (S100)) × Int × Int)
  | 0, _, _, _, _, _, _, _, _, _, _, _ => none
  | k + 1, x3, x4, x20, x21, x1000, x1001, x1002, x234000, x234001, x234002, x234003 => if x21 = true then (if x3.length < 2932031007402 then (spec_l00Src_diskActs.l0 k (x3 ++ [(⟨2, 0, 0, ([] : List Int)⟩ : S100)]) (wrap64 (x4 - 1)) x1000 x1001 x1002) else (none)) else (if x20 = 2 then ((spec_l00Src_next.f x1000 x1001 x1002 4).bind fun bt240 => ((spec_l00Src_next.f x1000 bt240.2.1 bt240.2.2 6).bind fun bt243 => (if x3.length < 2932031007402 then (spec_l00Src_diskActs.l0 k (x3 ++ [(⟨3, bt240.1, bt243.1, ([] : List Int)⟩ : S100)]) (wrap64 (x4 - 1)) x1000 bt243.2.1 bt243.2.2) else (none)))) else (if x20 = 3 then ((spec_l00Src_next.f x1000 x1001 x1002 20).bind fun bt249 => (if x3.length < 2932031007402 then (spec_l00Src_diskActs.l0 k (x3 ++ [(⟨4, bt249.1, 0, ([] : List Int)⟩ : S100)]) (wrap64 (x4 - 1)) x1000 bt249.2.1 bt249.2.2) else (none))) else (if x20 = 4 then ((spec_l00Src_next.f x1000 x1001 x1002 6).bind fun bt255 => ((spec_l00Src_next.f x1000 bt255.2.1 bt255.2.2 5).bind fun bt258 => ((spec_l00Src_next.f x1000 bt258.2.1 bt258.2.2 5).bind fun bt261 => (if x3.length < 2932031007402 then (spec_l00Src_diskActs.l0 k (x3 ++ [(⟨bt255.1, wrap64 (bt258.1 - 1), wrap64 (bt261.1 - 1), x234003⟩ : S100)]) (wrap64 (x4 - 1)) x1000 bt261.2.1 bt261.2.2) else (none))))) else (if x3.length < 2932031007402 then (spec_l00Src_diskActs.l0 k (x3 ++ [(⟨x234000, x234001, x234002, x234003⟩ : S100)]) (wrap64 (x4 - 1)) x1000 x1001 x1002) else (none)))))
end
def spec_l00Src_diskActs.f (k : Nat) (s0_0 : List Int) (s0_1 : Int) (s0_2 : Int) : Option ((List (S100)) × Int × Int) := (spec_l00Src_size.f s0_0 s0_1 s0_2 16).bind fun bt222 => ((spec_l00Src_next.f s0_0 bt222.2.1 bt222.2.2 (wrap64 (bt222.1 + 2))).bind fun bt225 => (spec_l00Src_diskActs.l0 k (([] : List (S100))) bt225.1 s0_0 bt225.2.1 bt225.2.2))
theorem spec_l00Src_diskActs.mono_l : ∀ k, (∀ y0 y1 y2 y3 y4, LeO (spec_l00Src_diskActs.l0 k y0 y1 y2 y3 y4) (spec_l00Src_diskActs.l0 (k + 1) y0 y1 y2 y3 y4)) ∧ (∀ y0 y1 y2 y3 y4 y5 y6 y7 y8 y9 y10, LeO (spec_l00Src_diskActs.j1 k y0 y1 y2 y3 y4 y5 y6 y7 y8 y9 y10) (spec_l00Src_diskActs.j1 (k + 1) y0 y1 y2 y3 y4 y5 y6 y7 y8 y9 y10))
  | 0 => ⟨fun _ _ _ _ _ r h => by simp [spec_l00Src_diskActs.l0] at h, fun _ _ _ _ _ _ _ _ _ _ _ r h => by simp [spec_l00Src_diskActs.j1] at h⟩
  | k + 1 => by
    obtain ⟨ih0, ih1⟩ := spec_l00Src_diskActs.mono_l k
    refine ⟨?_, ?_⟩
    · intro y0 y1 y2 y3 y4
      unfold spec_l00Src_diskActs.l0
      repeat' first
      | (with_reducible exact ih0 _ _ _ _ _)
      | (with_reducible exact ih1 _ _ _ _ _ _ _ _ _ _ _)
      | (with_reducible exact spec_l00Src_bytes.mono _ _ _ _ _)
      | (with_reducible exact LeO.refl _)
      | (with_reducible exact LeO.none _)
      | (with_reducible refine LeO.ite ?_ ?_)
      | (with_reducible refine LeO.bind ?_ (fun _ => ?_))
      | exact ih0 _ _ _ _ _
      | exact ih1 _ _ _ _ _ _ _ _ _ _ _
      | exact spec_l00Src_bytes.mono _ _ _ _ _
      | exact LeO.none _
      | refine LeO.ite ?_ ?_
      | refine LeO.bind ?_ (fun _ => ?_)
    · intro y0 y1 y2 y3 y4 y5 y6 y7 y8 y9 y10
      unfold spec_l00Src_diskActs.j1
      repeat' first
      | (with_reducible exact ih0 _ _ _ _ _)
      | (with_reducible exact ih1 _ _ _ _ _ _ _ _ _ _ _)
      | (with_reducible exact spec_l00Src_bytes.mono _ _ _ _ _)
      | (with_reducible exact LeO.refl _)
      | (with_reducible exact LeO.none _)
      | (with_reducible refine LeO.ite ?_ ?_)
      | (with_reducible refine LeO.bind ?_ (fun _ => ?_))
      | exact ih0 _ _ _ _ _
      | exact ih1 _ _ _ _ _ _ _ _ _ _ _
      | exact spec_l00Src_bytes.mono _ _ _ _ _
      | exact LeO.none _
      | refine LeO.ite ?_ ?_
      | refine LeO.bind ?_ (fun _ => ?_)
theorem spec_l00Src_diskActs.mono : ∀ a0 a1 a2 k, LeO (spec_l00Src_diskActs.f k a0 a1 a2) (spec_l00Src_diskActs.f (k + 1) a0 a1 a2) := by
  intro a0 a1 a2 k
  obtain ⟨ih0, ih1⟩ := spec_l00Src_diskActs.mono_l k
  unfold spec_l00Src_diskActs.f
  repeat' first
      | (with_reducible exact ih0 _ _ _ _ _)
      | (with_reducible exact ih1 _ _ _ _ _ _ _ _ _ _ _)
      | (with_reducible exact spec_l00Src_bytes.mono _ _ _ _ _)
      | (with_reducible exact LeO.refl _)
      | (with_reducible exact LeO.none _)
      | (with_reducible refine LeO.ite ?_ ?_)
      | (with_reducible refine LeO.bind ?_ (fun _ => ?_))
      | exact ih0 _ _ _ _ _
      | exact ih1 _ _ _ _ _ _ _ _ _ _ _
      | exact spec_l00Src_bytes.mono _ _ _ _ _
      | exact LeO.none _
      | refine LeO.ite ?_ ?_
      | refine LeO.bind ?_ (fun _ => ?_)
/-- The state's box, as a value that lies in the blocks P. -/
def LI (w0 W : World) (P : Nat → Prop) (g : Nat) (f0 : List Int) (f1 f2 : Int) : Prop := IsS134 w0 W g f0 f1 f2 ∧ ∀ k, P k ↔ k = g
theorem LI.step {w0 W W' : World} {P S : Nat → Prop} {g : Nat} {f0 : List Int} {f1 f2 : Int} (h : LI w0 W P g f0 f1 f2) (hk : Kept W W' S) (hS : ∀ k, P k → ¬ S k) : LI w0 W' P g f0 f1 f2 := ⟨IsS134.kept h.1 hk (hS g ((h.2 g).2 rfl)), h.2⟩
theorem LI.lt {w0 W : World} {P : Nat → Prop} {g : Nat} {f0 : List Int} {f1 f2 : Int} (h : LI w0 W P g f0 f1 f2) : ∀ k, P k → k < W.heap.size := fun k hk => by rw [(h.2 k).1 hk]; exact IsS134.lt h.1
theorem LI.is {w0 W : World} {P : Nat → Prop} {g : Nat} {f0 : List Int} {f1 f2 : Int} (h : LI w0 W P g f0 f1 f2) : IsS134 w0 W g f0 f1 f2 := h.1
theorem LI.kept {w0 W W' : World} {P : Nat → Prop} {g : Nat} {f0 : List Int} {f1 f2 : Int} (h : LI w0 W P g f0 f1 f2) (hk : KeepBut W W' g none) : Kept W W' P := ⟨hk.1, fun i hi hn => hk.2 i hi (fun he => hn ((h.2 i).2 he)) (by simp)⟩
theorem LI.new {w0 W W' : World} {P : Nat → Prop} {g : Nat} {f0 : List Int} {f1 f2 f3 f4 : Int} (h : LI w0 W P g f0 f1 f2) (hi : IsS134 w0 W' g f0 f3 f4) : LI w0 W' P g f0 f3 f4 := ⟨hi, h.2⟩
set_option maxHeartbeats 16000000 in
set_option maxRecDepth 100000 in
theorem spec_l00Src_diskActs.calls (k : Nat) (g : Nat) (s0_0 : List Int) (s0_1 : Int) (s0_2 : Int) (r1 : List (S100)) (r2 : Int) (r3 : Int) (w ws : World) (hI : IsS134 w ws g s0_0 s0_1 s0_2) (hB : Below w.heap.size w ws) (h : spec_l00Src_diskActs.f k s0_0 s0_1 s0_2 = some (r1, r2, r3)) :
    Calls Try.prog 74 #[.pointer (some ⟨g, 0, none⟩)] ws fun e w' => ∃ v0_ : Value, e = .returned (v0_) ∧ Kd.S k100 100 w' w.heap.size (fun _ => True) v0_ r1 ∧ IsS134 w w' g s0_0 r2 r3 ∧ Below w.heap.size w w' := by
  have hu100 := Try.underlying100
  obtain ⟨PS, hPS⟩ : ∃ P_ : Nat → Prop, P_ = fun k_ => k_ = g := ⟨_, rfl⟩
  have HS := Aside0.mk (show LI w ws PS g s0_0 s0_1 s0_2 from ⟨hI, fun k_ => by rw [hPS]⟩)
  have HB := Aside0.mk hB
  clear hI hB hPS
  unfold spec_l00Src_diskActs.f at h
  obtain ⟨⟨t1, a1, b1⟩, e1, h⟩ := Option.bind_eq_some_iff.1 h
  obtain ⟨⟨t2, a2, b2⟩, e2, h⟩ := Option.bind_eq_some_iff.1 h
  have E1 := Aside0.mk e1
  have E2 := Aside0.mk e2
  clear e1 e2
  obtain ⟨y0, hy0⟩ : ∃ y_ : List S100, y_ = [] := ⟨_, rfl⟩
  have Ny0 := Aside0.mk hy0
  have H' := Aside0.mk (show spec_l00Src_diskActs.l0 k y0 t2 s0_0 a2 b2 = some (r1, r2, r3) from by rw [hy0]; exact h)
  clear h hy0
  go_enter Try.func74, Try.ntmps74
  go_wp2_with (first | ((with_reducible refine gate_dst (N := 6) rfl ?_); refine Kd.S_lit k100 _ 100 ?hg_1 (N := 6) ?hd_1 (xs := ([] : List S100)) (inner := []) (ok := fun _ => True) (okp := fun _ => True) ?hr_1 ?hp_1 (fun _ hk => hk) trivial (Below.refl _ _) (Nat.le_refl _) (by simp) ?_; (case hd_1 => rfl); (case hg_1 => rfl); (case hr_1 => first | (go_simp; done) | (go_simp; rfl)); (case hp_1 => exact (Reps.none _ _)); intro vF1 w2 hrF1 hb hg_ hnew_; clear hg_ hnew_; rw [← Ny0.out] at hrF1; have hk := kept_below hb; obtain ⟨PF1, hPF1, HLF1⟩ := LS.fresh HB.out hrF1; have HF1 := Aside0.mk HLF1; clear HLF1 hrF1; have D_S_F1 := Aside0.mk (new_apart HS.out.lt hPF1); replace HS := Aside0.mk (HS.out.step hk no_S); clear hPF1; obtain ⟨BF1, DF1, e_F1⟩ := HF1.out.val; subst e_F1; replace HB := Aside0.mk (below_step HB.out hb); clear hb hk) | ((with_reducible refine gate_callee (f := 102) rfl ?_); refine goesL_ (some 9) rfl rfl Try.func102 (by kernel_rfl) rfl #[.pointer (some ⟨g, 0, none⟩), .int .i64 16] rfl (by (try simp only [List.map_toArray, List.map_cons, List.map_nil]); first | done | rfl) ?_; (with_reducible refine (spec_l00Src_size.calls g s0_0 s0_1 s0_2 16 t1 a1 b1 w _ HS.out.is HB.out E1.out).mono ?_); rintro e w2 ⟨rfl, hi, hb, hkb⟩; refine ⟨_, rfl, ?_⟩; have hk := LI.kept HS.out hkb; replace HF1 := Aside0.mk (HF1.out.step hk (apart_symm D_S_F1.out)); replace HS := Aside0.mk (LI.new HS.out hi); replace HB := Aside0.mk hb; clear hi hb hk hkb) | ((with_reducible refine gate_callee (f := 101) rfl ?_); refine goesL_ (some 11) rfl rfl Try.func101 (by kernel_rfl) rfl #[.pointer (some ⟨g, 0, none⟩), .int .i64 (wrap64 (t1 + 2))] rfl (by (try simp only [List.map_toArray, List.map_cons, List.map_nil]); first | done | rfl) ?_; (with_reducible refine (spec_l00Src_next.calls g s0_0 a1 b1 (wrap64 (t1 + 2)) t2 a2 b2 w _ HS.out.is HB.out E2.out).mono ?_); rintro e w2 ⟨rfl, hi, hb, hkb⟩; refine ⟨_, rfl, ?_⟩; have hk := LI.kept HS.out hkb; replace HF1 := Aside0.mk (HF1.out.step hk (apart_symm D_S_F1.out)); replace HS := Aside0.mk (LI.new HS.out hi); replace HB := Aside0.mk hb; clear hi hb hk hkb))
  go_loopg [3, 4] k (fun kq v3 v4 w' => ∃ (x3 : List S100) (x4 a b : Int) (P3 : Nat → Prop), v4 = .int .i64 x4 ∧ Aside0 (spec_l00Src_diskActs.l0 kq x3 x4 s0_0 a b = some (r1, r2, r3)) ∧ Aside0 (kq ≤ k) ∧ Aside0 (LS k100 100 w' w.heap.size P3 v3 x3) ∧ Aside0 (LI w w' PS g s0_0 a b) ∧ Aside0 (∀ k_, PS k_ → ¬ P3 k_) ∧ Aside0 (Below w.heap.size w w'))
  case atStart => exact ⟨y0, t2, a2, b2, PF1, rfl, H', ⟨Nat.le_refl _⟩, HF1, HS, D_S_F1, HB⟩
  case round =>
    clear H' HF1 HS D_S_F1 HB E1 E2 Ny0
    obtain ⟨x3, x4, a, b, P3, rfl, HA, HK1, H3, HS, D_S_3, HB⟩ := hrel
    cases gk with
    | zero => exact absurd HA.out (by simp [spec_l00Src_diskActs.l0])
    | succ k1 =>
      have H := HA.out
      clear HA
      obtain ⟨B3, D3, e_3⟩ := H3.out.val
      subst e_3
      simp only [spec_l00Src_diskActs.l0] at H
      by_cases c1 : x4 > 0
      · rw [if_pos c1] at H
        have cb1 : decide (0 < x4) = true := decide_eq_true c1
        clear c1
        obtain ⟨⟨t3, a3, b3⟩, e3, H⟩ := Option.bind_eq_some_iff.1 H
        obtain ⟨⟨t4, a4, b4⟩, e4, H⟩ := Option.bind_eq_some_iff.1 H
        have E3 := Aside0.mk e3
        have E4 := Aside0.mk e4
        clear e3 e4
        simp only at H
        by_cases d0 : t4 = 0
        · rw [if_pos d0] at H
          have cq0 : (t4 == 0) = true := beq_iff_eq.mpr d0
          rw [cq0] at H
          cases k1 with
          | zero => exact absurd H (by simp [spec_l00Src_diskActs.j1])
          | succ k2 =>
            simp only [spec_l00Src_diskActs.j1] at H
            rw [if_pos trivial] at H
            by_cases cl : x3.length < 2932031007402
            · rw [if_pos cl] at H
              have LM := Aside0.mk cl
              obtain ⟨y1, hy1⟩ : ∃ y_ : List S100, y_ = x3 ++ [(⟨2, 0, 0, ([] : List Int)⟩ : S100)] := ⟨_, rfl⟩
              rw [← hy1] at H
              have Ny1 := Aside0.mk hy1
              have H' := Aside0.mk H
              clear H hy1 cl
              go_wp2_with (first | ((with_reducible refine gate_callee (f := 103) rfl ?_); refine goesL_ (some 17) rfl rfl Try.func103 (by kernel_rfl) rfl #[.pointer (some ⟨g, 0, none⟩), .int .i64 8] rfl (by (try simp only [List.map_toArray, List.map_cons, List.map_nil]); first | done | rfl) ?_; (with_reducible refine (spec_l00Src_bytes.calls (k2 + 1) g s0_0 a b 8 t3 a3 b3 w _ HS.out.is HB.out E3.out).mono ?_); rintro e w2 ⟨vF2, rfl, hrF2, hi, hb, hkb⟩; refine ⟨_, rfl, ?_⟩; have hk := LI.kept HS.out hkb; obtain ⟨PF2, hPF2, HLF2⟩ := LR.fresh rfl HB.out hrF2; have HF2 := Aside0.mk HLF2; clear HLF2 hrF2; have D_S_F2 := Aside0.mk (new_apart HS.out.lt hPF2); have D_3_F2 := Aside0.mk (new_apart H3.out.lt hPF2); replace H3 := Aside0.mk (H3.out.step hk (apart_symm D_S_3.out)); replace HS := Aside0.mk (LI.new HS.out hi); replace HB := Aside0.mk hb; clear hi hb hk hkb; clear hPF2; obtain ⟨BF2, DF2, e_F2⟩ := HF2.out.val; subst e_F2) | ((with_reducible refine gate_dst (N := 5) rfl ?_); refine box_event ?hg_2 (N := 5) ?hd_2 (cs := #[.int .i64 0, .int .i64 0, .int .i64 0, .slice none 0 0]) (t := 100) ?hr_2 ?_; (case hd_2 => rfl); (case hg_2 => rfl); (case hr_2 => first | (go_simp; done) | (go_simp; rfl)); intro gX3 hg w2 hbox hb; have hk := kept_below hb; obtain ⟨PX3, hPX3, HLX3⟩ := LB.fresh hg hbox; have HX3 := Aside0.mk HLX3; clear HLX3; have GEX3 := Aside0.mk (show w.heap.size ≤ gX3 from (by rw [hg]; exact HB.out.size)); have D_S_X3 := Aside0.mk (new_apart HS.out.lt hPX3); have D_3_X3 := Aside0.mk (new_apart H3.out.lt hPX3); have D_F2_X3 := Aside0.mk (new_apart HF2.out.lt hPX3); replace HS := Aside0.mk (HS.out.step hk no_S); replace H3 := Aside0.mk (H3.out.step hk no_S); replace HF2 := Aside0.mk (HF2.out.step hk no_S); replace HB := Aside0.mk (below_step HB.out hb); clear hb hk hbox hg hPX3; (try clear hxX3_0 hfX3_0 hxX3_1 hfX3_1 hxX3_2 hfX3_2 hxX3_3 hfX3_3); have hxX3_0 := (HX3.out.cell 0).trans (show _ = some (.int .i64 0) from rfl); have hfX3_0 := HX3.out.frozen 0; have hxX3_1 := (HX3.out.cell 1).trans (show _ = some (.int .i64 0) from rfl); have hfX3_1 := HX3.out.frozen 1; have hxX3_2 := (HX3.out.cell 2).trans (show _ = some (.int .i64 0) from rfl); have hfX3_2 := HX3.out.frozen 2; have hxX3_3 := (HX3.out.cell 3).trans (show _ = some (.slice none 0 0) from rfl); have hfX3_3 := HX3.out.frozen 3) | ((with_reducible refine gate_store (t := 100) (p := 5) rfl ?_); refine LB.stored HX3.out HB.out GEX3.out 0 [.int .i64 1, .int .i64 0, .int .i64 0, .slice BF2 t3.length DF2] rfl (t := 100) (p := 5) rfl rfl ?hr_3 ?_; (case hr_3 => first | (go_simp; done) | (go_simp; rfl)); intro w2 hx hk hb; replace HS := Aside0.mk (HS.out.step hk D_S_X3.out); replace H3 := Aside0.mk (H3.out.step hk D_3_X3.out); replace HF2 := Aside0.mk (HF2.out.step hk D_F2_X3.out); replace HB := Aside0.mk hb; replace HX3 := Aside0.mk (show LB w2 PX3 gX3 100 #[.int .i64 1, .int .i64 0, .int .i64 0, .slice BF2 t3.length DF2] from hx); clear hk hx hb; (try clear hxX3_0 hfX3_0 hxX3_1 hfX3_1 hxX3_2 hfX3_2 hxX3_3 hfX3_3); have hxX3_0 := (HX3.out.cell 0).trans (show _ = some (.int .i64 1) from rfl); have hfX3_0 := HX3.out.frozen 0; have hxX3_1 := (HX3.out.cell 1).trans (show _ = some (.int .i64 0) from rfl); have hfX3_1 := HX3.out.frozen 1; have hxX3_2 := (HX3.out.cell 2).trans (show _ = some (.int .i64 0) from rfl); have hfX3_2 := HX3.out.frozen 2; have hxX3_3 := (HX3.out.cell 3).trans (show _ = some (.slice BF2 t3.length DF2) from rfl); have hfX3_3 := HX3.out.frozen 3) | ((with_reducible refine gate_callee (f := 101) rfl ?_); refine goesL_ (some 20) rfl rfl Try.func101 (by kernel_rfl) rfl #[.pointer (some ⟨g, 0, none⟩), .int .i64 8] rfl (by (try simp only [List.map_toArray, List.map_cons, List.map_nil]); first | done | rfl) ?_; (with_reducible refine (spec_l00Src_next.calls g s0_0 a3 b3 8 t4 a4 b4 w _ HS.out.is HB.out E4.out).mono ?_); rintro e w2 ⟨rfl, hi, hb, hkb⟩; refine ⟨_, rfl, ?_⟩; have hk := LI.kept HS.out hkb; replace H3 := Aside0.mk (H3.out.step hk (apart_symm D_S_3.out)); replace HF2 := Aside0.mk (HF2.out.step hk (apart_symm D_S_F2.out)); replace HX3 := Aside0.mk (HX3.out.step hk (apart_symm D_S_X3.out)); replace HS := Aside0.mk (LI.new HS.out hi); replace HB := Aside0.mk hb; clear hi hb hk hkb; (try clear hxX3_0 hfX3_0 hxX3_1 hfX3_1 hxX3_2 hfX3_2 hxX3_3 hfX3_3); have hxX3_0 := (HX3.out.cell 0).trans (show _ = some (.int .i64 1) from rfl); have hfX3_0 := HX3.out.frozen 0; have hxX3_1 := (HX3.out.cell 1).trans (show _ = some (.int .i64 0) from rfl); have hfX3_1 := HX3.out.frozen 1; have hxX3_2 := (HX3.out.cell 2).trans (show _ = some (.int .i64 0) from rfl); have hfX3_2 := HX3.out.frozen 2; have hxX3_3 := (HX3.out.cell 3).trans (show _ = some (.slice BF2 t3.length DF2) from rfl); have hfX3_3 := HX3.out.frozen 3) | ((with_reducible refine gate_store (t := 100) (p := 5) rfl ?_); refine LB.stored HX3.out HB.out GEX3.out 0 [.int .i64 2, .int .i64 0, .int .i64 0, .slice none 0 0] rfl (t := 100) (p := 5) rfl rfl ?hr_4 ?_; (case hr_4 => first | (go_simp; done) | (go_simp; rfl)); intro w2 hx hk hb; replace HS := Aside0.mk (HS.out.step hk D_S_X3.out); replace H3 := Aside0.mk (H3.out.step hk D_3_X3.out); replace HF2 := Aside0.mk (HF2.out.step hk D_F2_X3.out); replace HB := Aside0.mk hb; replace HX3 := Aside0.mk (show LB w2 PX3 gX3 100 #[.int .i64 2, .int .i64 0, .int .i64 0, .slice none 0 0] from hx); clear hk hx hb; (try clear hxX3_0 hfX3_0 hxX3_1 hfX3_1 hxX3_2 hfX3_2 hxX3_3 hfX3_3); have hxX3_0 := (HX3.out.cell 0).trans (show _ = some (.int .i64 2) from rfl); have hfX3_0 := HX3.out.frozen 0; have hxX3_1 := (HX3.out.cell 1).trans (show _ = some (.int .i64 0) from rfl); have hfX3_1 := HX3.out.frozen 1; have hxX3_2 := (HX3.out.cell 2).trans (show _ = some (.int .i64 0) from rfl); have hfX3_2 := HX3.out.frozen 2; have hxX3_3 := (HX3.out.cell 3).trans (show _ = some (.slice none 0 0) from rfl); have hfX3_3 := HX3.out.frozen 3) | (have D_S_N := Aside0.mk (show ∀ k_, PS k_ → ¬ (fun _ : Nat => False) k_ from fun _ _ h_ => h_); have D_3_N := Aside0.mk (show ∀ k_, P3 k_ → ¬ (fun _ : Nat => False) k_ from fun _ _ h_ => h_); have D_F2_N := Aside0.mk (show ∀ k_, PF2 k_ → ¬ (fun _ : Nat => False) k_ from fun _ _ h_ => h_); have D_X3_N := Aside0.mk (show ∀ k_, PX3 k_ → ¬ (fun _ : Nat => False) k_ from fun _ _ h_ => h_); have HN := Aside0.mk trivial; (with_reducible refine gate_builtin (b := .append) (xs := #[.tmp 50, .tmp 52]) rfl ?_); at_builtin; refine LS.append1 k100 (w0 := w) rfl (.tmp 50) (.tmp 52) 55 100 (.agg #[.int .i64 0, .int .i64 0, .int .i64 0, .slice none 0 0]) 48 rfl Try.underlying55 info100 rfl (by decide) (by omega) (.slice B3 x3.length D3) x3 (⟨2, 0, 0, ([] : List Int)⟩ : S100) [.int .i64 2, .int .i64 0, .int .i64 0, .slice none 0 0] rfl rfl (by simp) H3.out (k100_mkM _ _ (fun _ => False) (⟨2, 0, 0, ([] : List Int)⟩ : S100) (Kd.R_nil _ _ _ _ _)) D_3_N.out HB.out ?aL_5 ?_; (case aL_5 => have := LM.out; omega); intro PF4 v_ w2 HL hb hk hR; have D_S_F4 := Aside0.mk (apart_app hR HS.out.lt (apart_or D_S_3.out D_S_N.out)); have D_F2_F4 := Aside0.mk (apart_app hR HF2.out.lt (apart_or (apart_symm D_3_F2.out) D_F2_N.out)); have D_X3_F4 := Aside0.mk (apart_app hR HX3.out.lt (apart_or (apart_symm D_3_X3.out) D_X3_N.out)); replace HS := Aside0.mk (HS.out.step hk D_S_3.out); replace HF2 := Aside0.mk (HF2.out.step hk (apart_symm D_3_F2.out)); replace HX3 := Aside0.mk (HX3.out.step hk (apart_symm D_3_X3.out)); rw [← Ny1.out] at HL; have HF4 := Aside0.mk HL; replace HB := Aside0.mk hb; clear hR HL hb hk; clear H3; clear HN; obtain ⟨BF4, DF4, e_F4⟩ := HF4.out.val; subst e_F4; (try clear hxX3_0 hfX3_0 hxX3_1 hfX3_1 hxX3_2 hfX3_2 hxX3_3 hfX3_3); have hxX3_0 := (HX3.out.cell 0).trans (show _ = some (.int .i64 2) from rfl); have hfX3_0 := HX3.out.frozen 0; have hxX3_1 := (HX3.out.cell 1).trans (show _ = some (.int .i64 0) from rfl); have hfX3_1 := HX3.out.frozen 1; have hxX3_2 := (HX3.out.cell 2).trans (show _ = some (.int .i64 0) from rfl); have hfX3_2 := HX3.out.frozen 2; have hxX3_3 := (HX3.out.cell 3).trans (show _ = some (.slice none 0 0) from rfl); have hfX3_3 := HX3.out.frozen 3))
              go_roundg k2
              case measure => have := HK1.out; omega
              case rel => exact ⟨y1, wrap64 (x4 - 1), a4, b4, PF4, rfl, H', ⟨by have := HK1.out; omega⟩, HF4, HS, D_S_F4, HB⟩
            · rw [if_neg cl] at H
              exact absurd H (by simp)
        · rw [if_neg d0] at H
          have cq0 : (t4 == 0) = false := beq_eq_false_iff_ne.mpr d0
          by_cases d1 : t4 = 1
          · have cq1 : (t4 == 1) = true := beq_iff_eq.mpr d1
            rw [cq1] at H
            cases k1 with
            | zero => exact absurd H (by simp [spec_l00Src_diskActs.j1])
            | succ k2 =>
              simp only [spec_l00Src_diskActs.j1] at H
              rw [if_pos trivial] at H
              by_cases cl : x3.length < 2932031007402
              · rw [if_pos cl] at H
                have LM := Aside0.mk cl
                obtain ⟨y1, hy1⟩ : ∃ y_ : List S100, y_ = x3 ++ [(⟨2, 0, 0, ([] : List Int)⟩ : S100)] := ⟨_, rfl⟩
                rw [← hy1] at H
                have Ny1 := Aside0.mk hy1
                have H' := Aside0.mk H
                clear H hy1 cl
                go_wp2_with (first | ((with_reducible refine gate_callee (f := 103) rfl ?_); refine goesL_ (some 17) rfl rfl Try.func103 (by kernel_rfl) rfl #[.pointer (some ⟨g, 0, none⟩), .int .i64 8] rfl (by (try simp only [List.map_toArray, List.map_cons, List.map_nil]); first | done | rfl) ?_; (with_reducible refine (spec_l00Src_bytes.calls (k2 + 1) g s0_0 a b 8 t3 a3 b3 w _ HS.out.is HB.out E3.out).mono ?_); rintro e w2 ⟨vF5, rfl, hrF5, hi, hb, hkb⟩; refine ⟨_, rfl, ?_⟩; have hk := LI.kept HS.out hkb; obtain ⟨PF5, hPF5, HLF5⟩ := LR.fresh rfl HB.out hrF5; have HF5 := Aside0.mk HLF5; clear HLF5 hrF5; have D_S_F5 := Aside0.mk (new_apart HS.out.lt hPF5); have D_3_F5 := Aside0.mk (new_apart H3.out.lt hPF5); replace H3 := Aside0.mk (H3.out.step hk (apart_symm D_S_3.out)); replace HS := Aside0.mk (LI.new HS.out hi); replace HB := Aside0.mk hb; clear hi hb hk hkb; clear hPF5; obtain ⟨BF5, DF5, e_F5⟩ := HF5.out.val; subst e_F5) | ((with_reducible refine gate_dst (N := 5) rfl ?_); refine box_event ?hg_6 (N := 5) ?hd_6 (cs := #[.int .i64 0, .int .i64 0, .int .i64 0, .slice none 0 0]) (t := 100) ?hr_6 ?_; (case hd_6 => rfl); (case hg_6 => rfl); (case hr_6 => first | (go_simp; done) | (go_simp; rfl)); intro gX6 hg w2 hbox hb; have hk := kept_below hb; obtain ⟨PX6, hPX6, HLX6⟩ := LB.fresh hg hbox; have HX6 := Aside0.mk HLX6; clear HLX6; have GEX6 := Aside0.mk (show w.heap.size ≤ gX6 from (by rw [hg]; exact HB.out.size)); have D_S_X6 := Aside0.mk (new_apart HS.out.lt hPX6); have D_3_X6 := Aside0.mk (new_apart H3.out.lt hPX6); have D_F5_X6 := Aside0.mk (new_apart HF5.out.lt hPX6); replace HS := Aside0.mk (HS.out.step hk no_S); replace H3 := Aside0.mk (H3.out.step hk no_S); replace HF5 := Aside0.mk (HF5.out.step hk no_S); replace HB := Aside0.mk (below_step HB.out hb); clear hb hk hbox hg hPX6; (try clear hxX6_0 hfX6_0 hxX6_1 hfX6_1 hxX6_2 hfX6_2 hxX6_3 hfX6_3); have hxX6_0 := (HX6.out.cell 0).trans (show _ = some (.int .i64 0) from rfl); have hfX6_0 := HX6.out.frozen 0; have hxX6_1 := (HX6.out.cell 1).trans (show _ = some (.int .i64 0) from rfl); have hfX6_1 := HX6.out.frozen 1; have hxX6_2 := (HX6.out.cell 2).trans (show _ = some (.int .i64 0) from rfl); have hfX6_2 := HX6.out.frozen 2; have hxX6_3 := (HX6.out.cell 3).trans (show _ = some (.slice none 0 0) from rfl); have hfX6_3 := HX6.out.frozen 3) | ((with_reducible refine gate_store (t := 100) (p := 5) rfl ?_); refine LB.stored HX6.out HB.out GEX6.out 0 [.int .i64 1, .int .i64 0, .int .i64 0, .slice BF5 t3.length DF5] rfl (t := 100) (p := 5) rfl rfl ?hr_7 ?_; (case hr_7 => first | (go_simp; done) | (go_simp; rfl)); intro w2 hx hk hb; replace HS := Aside0.mk (HS.out.step hk D_S_X6.out); replace H3 := Aside0.mk (H3.out.step hk D_3_X6.out); replace HF5 := Aside0.mk (HF5.out.step hk D_F5_X6.out); replace HB := Aside0.mk hb; replace HX6 := Aside0.mk (show LB w2 PX6 gX6 100 #[.int .i64 1, .int .i64 0, .int .i64 0, .slice BF5 t3.length DF5] from hx); clear hk hx hb; (try clear hxX6_0 hfX6_0 hxX6_1 hfX6_1 hxX6_2 hfX6_2 hxX6_3 hfX6_3); have hxX6_0 := (HX6.out.cell 0).trans (show _ = some (.int .i64 1) from rfl); have hfX6_0 := HX6.out.frozen 0; have hxX6_1 := (HX6.out.cell 1).trans (show _ = some (.int .i64 0) from rfl); have hfX6_1 := HX6.out.frozen 1; have hxX6_2 := (HX6.out.cell 2).trans (show _ = some (.int .i64 0) from rfl); have hfX6_2 := HX6.out.frozen 2; have hxX6_3 := (HX6.out.cell 3).trans (show _ = some (.slice BF5 t3.length DF5) from rfl); have hfX6_3 := HX6.out.frozen 3) | ((with_reducible refine gate_callee (f := 101) rfl ?_); refine goesL_ (some 20) rfl rfl Try.func101 (by kernel_rfl) rfl #[.pointer (some ⟨g, 0, none⟩), .int .i64 8] rfl (by (try simp only [List.map_toArray, List.map_cons, List.map_nil]); first | done | rfl) ?_; (with_reducible refine (spec_l00Src_next.calls g s0_0 a3 b3 8 t4 a4 b4 w _ HS.out.is HB.out E4.out).mono ?_); rintro e w2 ⟨rfl, hi, hb, hkb⟩; refine ⟨_, rfl, ?_⟩; have hk := LI.kept HS.out hkb; replace H3 := Aside0.mk (H3.out.step hk (apart_symm D_S_3.out)); replace HF5 := Aside0.mk (HF5.out.step hk (apart_symm D_S_F5.out)); replace HX6 := Aside0.mk (HX6.out.step hk (apart_symm D_S_X6.out)); replace HS := Aside0.mk (LI.new HS.out hi); replace HB := Aside0.mk hb; clear hi hb hk hkb; (try clear hxX6_0 hfX6_0 hxX6_1 hfX6_1 hxX6_2 hfX6_2 hxX6_3 hfX6_3); have hxX6_0 := (HX6.out.cell 0).trans (show _ = some (.int .i64 1) from rfl); have hfX6_0 := HX6.out.frozen 0; have hxX6_1 := (HX6.out.cell 1).trans (show _ = some (.int .i64 0) from rfl); have hfX6_1 := HX6.out.frozen 1; have hxX6_2 := (HX6.out.cell 2).trans (show _ = some (.int .i64 0) from rfl); have hfX6_2 := HX6.out.frozen 2; have hxX6_3 := (HX6.out.cell 3).trans (show _ = some (.slice BF5 t3.length DF5) from rfl); have hfX6_3 := HX6.out.frozen 3) | ((with_reducible refine gate_store (t := 100) (p := 5) rfl ?_); refine LB.stored HX6.out HB.out GEX6.out 0 [.int .i64 2, .int .i64 0, .int .i64 0, .slice none 0 0] rfl (t := 100) (p := 5) rfl rfl ?hr_8 ?_; (case hr_8 => first | (go_simp; done) | (go_simp; rfl)); intro w2 hx hk hb; replace HS := Aside0.mk (HS.out.step hk D_S_X6.out); replace H3 := Aside0.mk (H3.out.step hk D_3_X6.out); replace HF5 := Aside0.mk (HF5.out.step hk D_F5_X6.out); replace HB := Aside0.mk hb; replace HX6 := Aside0.mk (show LB w2 PX6 gX6 100 #[.int .i64 2, .int .i64 0, .int .i64 0, .slice none 0 0] from hx); clear hk hx hb; (try clear hxX6_0 hfX6_0 hxX6_1 hfX6_1 hxX6_2 hfX6_2 hxX6_3 hfX6_3); have hxX6_0 := (HX6.out.cell 0).trans (show _ = some (.int .i64 2) from rfl); have hfX6_0 := HX6.out.frozen 0; have hxX6_1 := (HX6.out.cell 1).trans (show _ = some (.int .i64 0) from rfl); have hfX6_1 := HX6.out.frozen 1; have hxX6_2 := (HX6.out.cell 2).trans (show _ = some (.int .i64 0) from rfl); have hfX6_2 := HX6.out.frozen 2; have hxX6_3 := (HX6.out.cell 3).trans (show _ = some (.slice none 0 0) from rfl); have hfX6_3 := HX6.out.frozen 3) | (have D_S_N := Aside0.mk (show ∀ k_, PS k_ → ¬ (fun _ : Nat => False) k_ from fun _ _ h_ => h_); have D_3_N := Aside0.mk (show ∀ k_, P3 k_ → ¬ (fun _ : Nat => False) k_ from fun _ _ h_ => h_); have D_F5_N := Aside0.mk (show ∀ k_, PF5 k_ → ¬ (fun _ : Nat => False) k_ from fun _ _ h_ => h_); have D_X6_N := Aside0.mk (show ∀ k_, PX6 k_ → ¬ (fun _ : Nat => False) k_ from fun _ _ h_ => h_); have HN := Aside0.mk trivial; (with_reducible refine gate_builtin (b := .append) (xs := #[.tmp 50, .tmp 52]) rfl ?_); at_builtin; refine LS.append1 k100 (w0 := w) rfl (.tmp 50) (.tmp 52) 55 100 (.agg #[.int .i64 0, .int .i64 0, .int .i64 0, .slice none 0 0]) 48 rfl Try.underlying55 info100 rfl (by decide) (by omega) (.slice B3 x3.length D3) x3 (⟨2, 0, 0, ([] : List Int)⟩ : S100) [.int .i64 2, .int .i64 0, .int .i64 0, .slice none 0 0] rfl rfl (by simp) H3.out (k100_mkM _ _ (fun _ => False) (⟨2, 0, 0, ([] : List Int)⟩ : S100) (Kd.R_nil _ _ _ _ _)) D_3_N.out HB.out ?aL_9 ?_; (case aL_9 => have := LM.out; omega); intro PF7 v_ w2 HL hb hk hR; have D_S_F7 := Aside0.mk (apart_app hR HS.out.lt (apart_or D_S_3.out D_S_N.out)); have D_F5_F7 := Aside0.mk (apart_app hR HF5.out.lt (apart_or (apart_symm D_3_F5.out) D_F5_N.out)); have D_X6_F7 := Aside0.mk (apart_app hR HX6.out.lt (apart_or (apart_symm D_3_X6.out) D_X6_N.out)); replace HS := Aside0.mk (HS.out.step hk D_S_3.out); replace HF5 := Aside0.mk (HF5.out.step hk (apart_symm D_3_F5.out)); replace HX6 := Aside0.mk (HX6.out.step hk (apart_symm D_3_X6.out)); rw [← Ny1.out] at HL; have HF7 := Aside0.mk HL; replace HB := Aside0.mk hb; clear hR HL hb hk; clear H3; clear HN; obtain ⟨BF7, DF7, e_F7⟩ := HF7.out.val; subst e_F7; (try clear hxX6_0 hfX6_0 hxX6_1 hfX6_1 hxX6_2 hfX6_2 hxX6_3 hfX6_3); have hxX6_0 := (HX6.out.cell 0).trans (show _ = some (.int .i64 2) from rfl); have hfX6_0 := HX6.out.frozen 0; have hxX6_1 := (HX6.out.cell 1).trans (show _ = some (.int .i64 0) from rfl); have hfX6_1 := HX6.out.frozen 1; have hxX6_2 := (HX6.out.cell 2).trans (show _ = some (.int .i64 0) from rfl); have hfX6_2 := HX6.out.frozen 2; have hxX6_3 := (HX6.out.cell 3).trans (show _ = some (.slice none 0 0) from rfl); have hfX6_3 := HX6.out.frozen 3))
                go_roundg k2
                case measure => have := HK1.out; omega
                case rel => exact ⟨y1, wrap64 (x4 - 1), a4, b4, PF7, rfl, H', ⟨by have := HK1.out; omega⟩, HF7, HS, D_S_F7, HB⟩
              · rw [if_neg cl] at H
                exact absurd H (by simp)
          · have cq1 : (t4 == 1) = false := beq_eq_false_iff_ne.mpr d1
            rw [cq1] at H
            cases k1 with
            | zero => exact absurd H (by simp [spec_l00Src_diskActs.j1])
            | succ k2 =>
              simp only [spec_l00Src_diskActs.j1] at H
              rw [if_neg (by simp)] at H
              by_cases d2 : t4 = 2
              · rw [if_pos d2] at H
                have cq2 : (t4 == 2) = true := beq_iff_eq.mpr d2
                obtain ⟨⟨t5, a5, b5⟩, e5, H⟩ := Option.bind_eq_some_iff.1 H
                have E5 := Aside0.mk e5
                clear e5
                simp only at H
                obtain ⟨⟨t6, a6, b6⟩, e6, H⟩ := Option.bind_eq_some_iff.1 H
                have E6 := Aside0.mk e6
                clear e6
                simp only at H
                by_cases cl : x3.length < 2932031007402
                · rw [if_pos cl] at H
                  have LM := Aside0.mk cl
                  obtain ⟨y1, hy1⟩ : ∃ y_ : List S100, y_ = x3 ++ [(⟨3, t5, t6, ([] : List Int)⟩ : S100)] := ⟨_, rfl⟩
                  rw [← hy1] at H
                  have Ny1 := Aside0.mk hy1
                  have H' := Aside0.mk H
                  clear H hy1 cl
                  go_wp2_with (first | ((with_reducible refine gate_callee (f := 103) rfl ?_); refine goesL_ (some 17) rfl rfl Try.func103 (by kernel_rfl) rfl #[.pointer (some ⟨g, 0, none⟩), .int .i64 8] rfl (by (try simp only [List.map_toArray, List.map_cons, List.map_nil]); first | done | rfl) ?_; (with_reducible refine (spec_l00Src_bytes.calls (k2 + 1) g s0_0 a b 8 t3 a3 b3 w _ HS.out.is HB.out E3.out).mono ?_); rintro e w2 ⟨vF8, rfl, hrF8, hi, hb, hkb⟩; refine ⟨_, rfl, ?_⟩; have hk := LI.kept HS.out hkb; obtain ⟨PF8, hPF8, HLF8⟩ := LR.fresh rfl HB.out hrF8; have HF8 := Aside0.mk HLF8; clear HLF8 hrF8; have D_S_F8 := Aside0.mk (new_apart HS.out.lt hPF8); have D_3_F8 := Aside0.mk (new_apart H3.out.lt hPF8); replace H3 := Aside0.mk (H3.out.step hk (apart_symm D_S_3.out)); replace HS := Aside0.mk (LI.new HS.out hi); replace HB := Aside0.mk hb; clear hi hb hk hkb; clear hPF8; obtain ⟨BF8, DF8, e_F8⟩ := HF8.out.val; subst e_F8) | ((with_reducible refine gate_dst (N := 5) rfl ?_); refine box_event ?hg_10 (N := 5) ?hd_10 (cs := #[.int .i64 0, .int .i64 0, .int .i64 0, .slice none 0 0]) (t := 100) ?hr_10 ?_; (case hd_10 => rfl); (case hg_10 => rfl); (case hr_10 => first | (go_simp; done) | (go_simp; rfl)); intro gX9 hg w2 hbox hb; have hk := kept_below hb; obtain ⟨PX9, hPX9, HLX9⟩ := LB.fresh hg hbox; have HX9 := Aside0.mk HLX9; clear HLX9; have GEX9 := Aside0.mk (show w.heap.size ≤ gX9 from (by rw [hg]; exact HB.out.size)); have D_S_X9 := Aside0.mk (new_apart HS.out.lt hPX9); have D_3_X9 := Aside0.mk (new_apart H3.out.lt hPX9); have D_F8_X9 := Aside0.mk (new_apart HF8.out.lt hPX9); replace HS := Aside0.mk (HS.out.step hk no_S); replace H3 := Aside0.mk (H3.out.step hk no_S); replace HF8 := Aside0.mk (HF8.out.step hk no_S); replace HB := Aside0.mk (below_step HB.out hb); clear hb hk hbox hg hPX9; (try clear hxX9_0 hfX9_0 hxX9_1 hfX9_1 hxX9_2 hfX9_2 hxX9_3 hfX9_3); have hxX9_0 := (HX9.out.cell 0).trans (show _ = some (.int .i64 0) from rfl); have hfX9_0 := HX9.out.frozen 0; have hxX9_1 := (HX9.out.cell 1).trans (show _ = some (.int .i64 0) from rfl); have hfX9_1 := HX9.out.frozen 1; have hxX9_2 := (HX9.out.cell 2).trans (show _ = some (.int .i64 0) from rfl); have hfX9_2 := HX9.out.frozen 2; have hxX9_3 := (HX9.out.cell 3).trans (show _ = some (.slice none 0 0) from rfl); have hfX9_3 := HX9.out.frozen 3) | ((with_reducible refine gate_store (t := 100) (p := 5) rfl ?_); refine LB.stored HX9.out HB.out GEX9.out 0 [.int .i64 1, .int .i64 0, .int .i64 0, .slice BF8 t3.length DF8] rfl (t := 100) (p := 5) rfl rfl ?hr_11 ?_; (case hr_11 => first | (go_simp; done) | (go_simp; rfl)); intro w2 hx hk hb; replace HS := Aside0.mk (HS.out.step hk D_S_X9.out); replace H3 := Aside0.mk (H3.out.step hk D_3_X9.out); replace HF8 := Aside0.mk (HF8.out.step hk D_F8_X9.out); replace HB := Aside0.mk hb; replace HX9 := Aside0.mk (show LB w2 PX9 gX9 100 #[.int .i64 1, .int .i64 0, .int .i64 0, .slice BF8 t3.length DF8] from hx); clear hk hx hb; (try clear hxX9_0 hfX9_0 hxX9_1 hfX9_1 hxX9_2 hfX9_2 hxX9_3 hfX9_3); have hxX9_0 := (HX9.out.cell 0).trans (show _ = some (.int .i64 1) from rfl); have hfX9_0 := HX9.out.frozen 0; have hxX9_1 := (HX9.out.cell 1).trans (show _ = some (.int .i64 0) from rfl); have hfX9_1 := HX9.out.frozen 1; have hxX9_2 := (HX9.out.cell 2).trans (show _ = some (.int .i64 0) from rfl); have hfX9_2 := HX9.out.frozen 2; have hxX9_3 := (HX9.out.cell 3).trans (show _ = some (.slice BF8 t3.length DF8) from rfl); have hfX9_3 := HX9.out.frozen 3) | ((with_reducible refine gate_callee (f := 101) rfl ?_); refine goesL_ (some 20) rfl rfl Try.func101 (by kernel_rfl) rfl #[.pointer (some ⟨g, 0, none⟩), .int .i64 8] rfl (by (try simp only [List.map_toArray, List.map_cons, List.map_nil]); first | done | rfl) ?_; (with_reducible refine (spec_l00Src_next.calls g s0_0 a3 b3 8 t4 a4 b4 w _ HS.out.is HB.out E4.out).mono ?_); rintro e w2 ⟨rfl, hi, hb, hkb⟩; refine ⟨_, rfl, ?_⟩; have hk := LI.kept HS.out hkb; replace H3 := Aside0.mk (H3.out.step hk (apart_symm D_S_3.out)); replace HF8 := Aside0.mk (HF8.out.step hk (apart_symm D_S_F8.out)); replace HX9 := Aside0.mk (HX9.out.step hk (apart_symm D_S_X9.out)); replace HS := Aside0.mk (LI.new HS.out hi); replace HB := Aside0.mk hb; clear hi hb hk hkb; (try clear hxX9_0 hfX9_0 hxX9_1 hfX9_1 hxX9_2 hfX9_2 hxX9_3 hfX9_3); have hxX9_0 := (HX9.out.cell 0).trans (show _ = some (.int .i64 1) from rfl); have hfX9_0 := HX9.out.frozen 0; have hxX9_1 := (HX9.out.cell 1).trans (show _ = some (.int .i64 0) from rfl); have hfX9_1 := HX9.out.frozen 1; have hxX9_2 := (HX9.out.cell 2).trans (show _ = some (.int .i64 0) from rfl); have hfX9_2 := HX9.out.frozen 2; have hxX9_3 := (HX9.out.cell 3).trans (show _ = some (.slice BF8 t3.length DF8) from rfl); have hfX9_3 := HX9.out.frozen 3) | ((with_reducible refine gate_callee (f := 101) rfl ?_); refine goesL_ (some 28) rfl rfl Try.func101 (by kernel_rfl) rfl #[.pointer (some ⟨g, 0, none⟩), .int .i64 4] rfl (by (try simp only [List.map_toArray, List.map_cons, List.map_nil]); first | done | rfl) ?_; (with_reducible refine (spec_l00Src_next.calls g s0_0 a4 b4 4 t5 a5 b5 w _ HS.out.is HB.out E5.out).mono ?_); rintro e w2 ⟨rfl, hi, hb, hkb⟩; refine ⟨_, rfl, ?_⟩; have hk := LI.kept HS.out hkb; replace H3 := Aside0.mk (H3.out.step hk (apart_symm D_S_3.out)); replace HF8 := Aside0.mk (HF8.out.step hk (apart_symm D_S_F8.out)); replace HX9 := Aside0.mk (HX9.out.step hk (apart_symm D_S_X9.out)); replace HS := Aside0.mk (LI.new HS.out hi); replace HB := Aside0.mk hb; clear hi hb hk hkb; (try clear hxX9_0 hfX9_0 hxX9_1 hfX9_1 hxX9_2 hfX9_2 hxX9_3 hfX9_3); have hxX9_0 := (HX9.out.cell 0).trans (show _ = some (.int .i64 1) from rfl); have hfX9_0 := HX9.out.frozen 0; have hxX9_1 := (HX9.out.cell 1).trans (show _ = some (.int .i64 0) from rfl); have hfX9_1 := HX9.out.frozen 1; have hxX9_2 := (HX9.out.cell 2).trans (show _ = some (.int .i64 0) from rfl); have hfX9_2 := HX9.out.frozen 2; have hxX9_3 := (HX9.out.cell 3).trans (show _ = some (.slice BF8 t3.length DF8) from rfl); have hfX9_3 := HX9.out.frozen 3) | ((with_reducible refine gate_callee (f := 101) rfl ?_); refine goesL_ (some 30) rfl rfl Try.func101 (by kernel_rfl) rfl #[.pointer (some ⟨g, 0, none⟩), .int .i64 6] rfl (by (try simp only [List.map_toArray, List.map_cons, List.map_nil]); first | done | rfl) ?_; (with_reducible refine (spec_l00Src_next.calls g s0_0 a5 b5 6 t6 a6 b6 w _ HS.out.is HB.out E6.out).mono ?_); rintro e w2 ⟨rfl, hi, hb, hkb⟩; refine ⟨_, rfl, ?_⟩; have hk := LI.kept HS.out hkb; replace H3 := Aside0.mk (H3.out.step hk (apart_symm D_S_3.out)); replace HF8 := Aside0.mk (HF8.out.step hk (apart_symm D_S_F8.out)); replace HX9 := Aside0.mk (HX9.out.step hk (apart_symm D_S_X9.out)); replace HS := Aside0.mk (LI.new HS.out hi); replace HB := Aside0.mk hb; clear hi hb hk hkb; (try clear hxX9_0 hfX9_0 hxX9_1 hfX9_1 hxX9_2 hfX9_2 hxX9_3 hfX9_3); have hxX9_0 := (HX9.out.cell 0).trans (show _ = some (.int .i64 1) from rfl); have hfX9_0 := HX9.out.frozen 0; have hxX9_1 := (HX9.out.cell 1).trans (show _ = some (.int .i64 0) from rfl); have hfX9_1 := HX9.out.frozen 1; have hxX9_2 := (HX9.out.cell 2).trans (show _ = some (.int .i64 0) from rfl); have hfX9_2 := HX9.out.frozen 2; have hxX9_3 := (HX9.out.cell 3).trans (show _ = some (.slice BF8 t3.length DF8) from rfl); have hfX9_3 := HX9.out.frozen 3) | ((with_reducible refine gate_store (t := 100) (p := 5) rfl ?_); refine LB.stored HX9.out HB.out GEX9.out 0 [.int .i64 3, .int .i64 t5, .int .i64 t6, .slice none 0 0] rfl (t := 100) (p := 5) rfl rfl ?hr_12 ?_; (case hr_12 => first | (go_simp; done) | (go_simp; rfl)); intro w2 hx hk hb; replace HS := Aside0.mk (HS.out.step hk D_S_X9.out); replace H3 := Aside0.mk (H3.out.step hk D_3_X9.out); replace HF8 := Aside0.mk (HF8.out.step hk D_F8_X9.out); replace HB := Aside0.mk hb; replace HX9 := Aside0.mk (show LB w2 PX9 gX9 100 #[.int .i64 3, .int .i64 t5, .int .i64 t6, .slice none 0 0] from hx); clear hk hx hb; (try clear hxX9_0 hfX9_0 hxX9_1 hfX9_1 hxX9_2 hfX9_2 hxX9_3 hfX9_3); have hxX9_0 := (HX9.out.cell 0).trans (show _ = some (.int .i64 3) from rfl); have hfX9_0 := HX9.out.frozen 0; have hxX9_1 := (HX9.out.cell 1).trans (show _ = some (.int .i64 t5) from rfl); have hfX9_1 := HX9.out.frozen 1; have hxX9_2 := (HX9.out.cell 2).trans (show _ = some (.int .i64 t6) from rfl); have hfX9_2 := HX9.out.frozen 2; have hxX9_3 := (HX9.out.cell 3).trans (show _ = some (.slice none 0 0) from rfl); have hfX9_3 := HX9.out.frozen 3) | (have D_S_N := Aside0.mk (show ∀ k_, PS k_ → ¬ (fun _ : Nat => False) k_ from fun _ _ h_ => h_); have D_3_N := Aside0.mk (show ∀ k_, P3 k_ → ¬ (fun _ : Nat => False) k_ from fun _ _ h_ => h_); have D_F8_N := Aside0.mk (show ∀ k_, PF8 k_ → ¬ (fun _ : Nat => False) k_ from fun _ _ h_ => h_); have D_X9_N := Aside0.mk (show ∀ k_, PX9 k_ → ¬ (fun _ : Nat => False) k_ from fun _ _ h_ => h_); have HN := Aside0.mk trivial; (with_reducible refine gate_builtin (b := .append) (xs := #[.tmp 50, .tmp 52]) rfl ?_); at_builtin; refine LS.append1 k100 (w0 := w) rfl (.tmp 50) (.tmp 52) 55 100 (.agg #[.int .i64 0, .int .i64 0, .int .i64 0, .slice none 0 0]) 48 rfl Try.underlying55 info100 rfl (by decide) (by omega) (.slice B3 x3.length D3) x3 (⟨3, t5, t6, ([] : List Int)⟩ : S100) [.int .i64 3, .int .i64 t5, .int .i64 t6, .slice none 0 0] rfl rfl (by simp) H3.out (k100_mkM _ _ (fun _ => False) (⟨3, t5, t6, ([] : List Int)⟩ : S100) (Kd.R_nil _ _ _ _ _)) D_3_N.out HB.out ?aL_13 ?_; (case aL_13 => have := LM.out; omega); intro PF10 v_ w2 HL hb hk hR; have D_S_F10 := Aside0.mk (apart_app hR HS.out.lt (apart_or D_S_3.out D_S_N.out)); have D_F8_F10 := Aside0.mk (apart_app hR HF8.out.lt (apart_or (apart_symm D_3_F8.out) D_F8_N.out)); have D_X9_F10 := Aside0.mk (apart_app hR HX9.out.lt (apart_or (apart_symm D_3_X9.out) D_X9_N.out)); replace HS := Aside0.mk (HS.out.step hk D_S_3.out); replace HF8 := Aside0.mk (HF8.out.step hk (apart_symm D_3_F8.out)); replace HX9 := Aside0.mk (HX9.out.step hk (apart_symm D_3_X9.out)); rw [← Ny1.out] at HL; have HF10 := Aside0.mk HL; replace HB := Aside0.mk hb; clear hR HL hb hk; clear H3; clear HN; obtain ⟨BF10, DF10, e_F10⟩ := HF10.out.val; subst e_F10; (try clear hxX9_0 hfX9_0 hxX9_1 hfX9_1 hxX9_2 hfX9_2 hxX9_3 hfX9_3); have hxX9_0 := (HX9.out.cell 0).trans (show _ = some (.int .i64 3) from rfl); have hfX9_0 := HX9.out.frozen 0; have hxX9_1 := (HX9.out.cell 1).trans (show _ = some (.int .i64 t5) from rfl); have hfX9_1 := HX9.out.frozen 1; have hxX9_2 := (HX9.out.cell 2).trans (show _ = some (.int .i64 t6) from rfl); have hfX9_2 := HX9.out.frozen 2; have hxX9_3 := (HX9.out.cell 3).trans (show _ = some (.slice none 0 0) from rfl); have hfX9_3 := HX9.out.frozen 3))
                  go_roundg k2
                  case measure => have := HK1.out; omega
                  case rel => exact ⟨y1, wrap64 (x4 - 1), a6, b6, PF10, rfl, H', ⟨by have := HK1.out; omega⟩, HF10, HS, D_S_F10, HB⟩
                · rw [if_neg cl] at H
                  exact absurd H (by simp)
              · rw [if_neg d2] at H
                have cq2 : (t4 == 2) = false := beq_eq_false_iff_ne.mpr d2
                by_cases d3 : t4 = 3
                · rw [if_pos d3] at H
                  have cq3 : (t4 == 3) = true := beq_iff_eq.mpr d3
                  obtain ⟨⟨t5, a5, b5⟩, e5, H⟩ := Option.bind_eq_some_iff.1 H
                  have E5 := Aside0.mk e5
                  clear e5
                  simp only at H
                  by_cases cl : x3.length < 2932031007402
                  · rw [if_pos cl] at H
                    have LM := Aside0.mk cl
                    obtain ⟨y1, hy1⟩ : ∃ y_ : List S100, y_ = x3 ++ [(⟨4, t5, 0, ([] : List Int)⟩ : S100)] := ⟨_, rfl⟩
                    rw [← hy1] at H
                    have Ny1 := Aside0.mk hy1
                    have H' := Aside0.mk H
                    clear H hy1 cl
                    go_wp2_with (first | ((with_reducible refine gate_callee (f := 103) rfl ?_); refine goesL_ (some 17) rfl rfl Try.func103 (by kernel_rfl) rfl #[.pointer (some ⟨g, 0, none⟩), .int .i64 8] rfl (by (try simp only [List.map_toArray, List.map_cons, List.map_nil]); first | done | rfl) ?_; (with_reducible refine (spec_l00Src_bytes.calls (k2 + 1) g s0_0 a b 8 t3 a3 b3 w _ HS.out.is HB.out E3.out).mono ?_); rintro e w2 ⟨vF11, rfl, hrF11, hi, hb, hkb⟩; refine ⟨_, rfl, ?_⟩; have hk := LI.kept HS.out hkb; obtain ⟨PF11, hPF11, HLF11⟩ := LR.fresh rfl HB.out hrF11; have HF11 := Aside0.mk HLF11; clear HLF11 hrF11; have D_S_F11 := Aside0.mk (new_apart HS.out.lt hPF11); have D_3_F11 := Aside0.mk (new_apart H3.out.lt hPF11); replace H3 := Aside0.mk (H3.out.step hk (apart_symm D_S_3.out)); replace HS := Aside0.mk (LI.new HS.out hi); replace HB := Aside0.mk hb; clear hi hb hk hkb; clear hPF11; obtain ⟨BF11, DF11, e_F11⟩ := HF11.out.val; subst e_F11) | ((with_reducible refine gate_dst (N := 5) rfl ?_); refine box_event ?hg_14 (N := 5) ?hd_14 (cs := #[.int .i64 0, .int .i64 0, .int .i64 0, .slice none 0 0]) (t := 100) ?hr_14 ?_; (case hd_14 => rfl); (case hg_14 => rfl); (case hr_14 => first | (go_simp; done) | (go_simp; rfl)); intro gX12 hg w2 hbox hb; have hk := kept_below hb; obtain ⟨PX12, hPX12, HLX12⟩ := LB.fresh hg hbox; have HX12 := Aside0.mk HLX12; clear HLX12; have GEX12 := Aside0.mk (show w.heap.size ≤ gX12 from (by rw [hg]; exact HB.out.size)); have D_S_X12 := Aside0.mk (new_apart HS.out.lt hPX12); have D_3_X12 := Aside0.mk (new_apart H3.out.lt hPX12); have D_F11_X12 := Aside0.mk (new_apart HF11.out.lt hPX12); replace HS := Aside0.mk (HS.out.step hk no_S); replace H3 := Aside0.mk (H3.out.step hk no_S); replace HF11 := Aside0.mk (HF11.out.step hk no_S); replace HB := Aside0.mk (below_step HB.out hb); clear hb hk hbox hg hPX12; (try clear hxX12_0 hfX12_0 hxX12_1 hfX12_1 hxX12_2 hfX12_2 hxX12_3 hfX12_3); have hxX12_0 := (HX12.out.cell 0).trans (show _ = some (.int .i64 0) from rfl); have hfX12_0 := HX12.out.frozen 0; have hxX12_1 := (HX12.out.cell 1).trans (show _ = some (.int .i64 0) from rfl); have hfX12_1 := HX12.out.frozen 1; have hxX12_2 := (HX12.out.cell 2).trans (show _ = some (.int .i64 0) from rfl); have hfX12_2 := HX12.out.frozen 2; have hxX12_3 := (HX12.out.cell 3).trans (show _ = some (.slice none 0 0) from rfl); have hfX12_3 := HX12.out.frozen 3) | ((with_reducible refine gate_store (t := 100) (p := 5) rfl ?_); refine LB.stored HX12.out HB.out GEX12.out 0 [.int .i64 1, .int .i64 0, .int .i64 0, .slice BF11 t3.length DF11] rfl (t := 100) (p := 5) rfl rfl ?hr_15 ?_; (case hr_15 => first | (go_simp; done) | (go_simp; rfl)); intro w2 hx hk hb; replace HS := Aside0.mk (HS.out.step hk D_S_X12.out); replace H3 := Aside0.mk (H3.out.step hk D_3_X12.out); replace HF11 := Aside0.mk (HF11.out.step hk D_F11_X12.out); replace HB := Aside0.mk hb; replace HX12 := Aside0.mk (show LB w2 PX12 gX12 100 #[.int .i64 1, .int .i64 0, .int .i64 0, .slice BF11 t3.length DF11] from hx); clear hk hx hb; (try clear hxX12_0 hfX12_0 hxX12_1 hfX12_1 hxX12_2 hfX12_2 hxX12_3 hfX12_3); have hxX12_0 := (HX12.out.cell 0).trans (show _ = some (.int .i64 1) from rfl); have hfX12_0 := HX12.out.frozen 0; have hxX12_1 := (HX12.out.cell 1).trans (show _ = some (.int .i64 0) from rfl); have hfX12_1 := HX12.out.frozen 1; have hxX12_2 := (HX12.out.cell 2).trans (show _ = some (.int .i64 0) from rfl); have hfX12_2 := HX12.out.frozen 2; have hxX12_3 := (HX12.out.cell 3).trans (show _ = some (.slice BF11 t3.length DF11) from rfl); have hfX12_3 := HX12.out.frozen 3) | ((with_reducible refine gate_callee (f := 101) rfl ?_); refine goesL_ (some 20) rfl rfl Try.func101 (by kernel_rfl) rfl #[.pointer (some ⟨g, 0, none⟩), .int .i64 8] rfl (by (try simp only [List.map_toArray, List.map_cons, List.map_nil]); first | done | rfl) ?_; (with_reducible refine (spec_l00Src_next.calls g s0_0 a3 b3 8 t4 a4 b4 w _ HS.out.is HB.out E4.out).mono ?_); rintro e w2 ⟨rfl, hi, hb, hkb⟩; refine ⟨_, rfl, ?_⟩; have hk := LI.kept HS.out hkb; replace H3 := Aside0.mk (H3.out.step hk (apart_symm D_S_3.out)); replace HF11 := Aside0.mk (HF11.out.step hk (apart_symm D_S_F11.out)); replace HX12 := Aside0.mk (HX12.out.step hk (apart_symm D_S_X12.out)); replace HS := Aside0.mk (LI.new HS.out hi); replace HB := Aside0.mk hb; clear hi hb hk hkb; (try clear hxX12_0 hfX12_0 hxX12_1 hfX12_1 hxX12_2 hfX12_2 hxX12_3 hfX12_3); have hxX12_0 := (HX12.out.cell 0).trans (show _ = some (.int .i64 1) from rfl); have hfX12_0 := HX12.out.frozen 0; have hxX12_1 := (HX12.out.cell 1).trans (show _ = some (.int .i64 0) from rfl); have hfX12_1 := HX12.out.frozen 1; have hxX12_2 := (HX12.out.cell 2).trans (show _ = some (.int .i64 0) from rfl); have hfX12_2 := HX12.out.frozen 2; have hxX12_3 := (HX12.out.cell 3).trans (show _ = some (.slice BF11 t3.length DF11) from rfl); have hfX12_3 := HX12.out.frozen 3) | ((with_reducible refine gate_callee (f := 101) rfl ?_); refine goesL_ (some 35) rfl rfl Try.func101 (by kernel_rfl) rfl #[.pointer (some ⟨g, 0, none⟩), .int .i64 20] rfl (by (try simp only [List.map_toArray, List.map_cons, List.map_nil]); first | done | rfl) ?_; (with_reducible refine (spec_l00Src_next.calls g s0_0 a4 b4 20 t5 a5 b5 w _ HS.out.is HB.out E5.out).mono ?_); rintro e w2 ⟨rfl, hi, hb, hkb⟩; refine ⟨_, rfl, ?_⟩; have hk := LI.kept HS.out hkb; replace H3 := Aside0.mk (H3.out.step hk (apart_symm D_S_3.out)); replace HF11 := Aside0.mk (HF11.out.step hk (apart_symm D_S_F11.out)); replace HX12 := Aside0.mk (HX12.out.step hk (apart_symm D_S_X12.out)); replace HS := Aside0.mk (LI.new HS.out hi); replace HB := Aside0.mk hb; clear hi hb hk hkb; (try clear hxX12_0 hfX12_0 hxX12_1 hfX12_1 hxX12_2 hfX12_2 hxX12_3 hfX12_3); have hxX12_0 := (HX12.out.cell 0).trans (show _ = some (.int .i64 1) from rfl); have hfX12_0 := HX12.out.frozen 0; have hxX12_1 := (HX12.out.cell 1).trans (show _ = some (.int .i64 0) from rfl); have hfX12_1 := HX12.out.frozen 1; have hxX12_2 := (HX12.out.cell 2).trans (show _ = some (.int .i64 0) from rfl); have hfX12_2 := HX12.out.frozen 2; have hxX12_3 := (HX12.out.cell 3).trans (show _ = some (.slice BF11 t3.length DF11) from rfl); have hfX12_3 := HX12.out.frozen 3) | ((with_reducible refine gate_store (t := 100) (p := 5) rfl ?_); refine LB.stored HX12.out HB.out GEX12.out 0 [.int .i64 4, .int .i64 t5, .int .i64 0, .slice none 0 0] rfl (t := 100) (p := 5) rfl rfl ?hr_16 ?_; (case hr_16 => first | (go_simp; done) | (go_simp; rfl)); intro w2 hx hk hb; replace HS := Aside0.mk (HS.out.step hk D_S_X12.out); replace H3 := Aside0.mk (H3.out.step hk D_3_X12.out); replace HF11 := Aside0.mk (HF11.out.step hk D_F11_X12.out); replace HB := Aside0.mk hb; replace HX12 := Aside0.mk (show LB w2 PX12 gX12 100 #[.int .i64 4, .int .i64 t5, .int .i64 0, .slice none 0 0] from hx); clear hk hx hb; (try clear hxX12_0 hfX12_0 hxX12_1 hfX12_1 hxX12_2 hfX12_2 hxX12_3 hfX12_3); have hxX12_0 := (HX12.out.cell 0).trans (show _ = some (.int .i64 4) from rfl); have hfX12_0 := HX12.out.frozen 0; have hxX12_1 := (HX12.out.cell 1).trans (show _ = some (.int .i64 t5) from rfl); have hfX12_1 := HX12.out.frozen 1; have hxX12_2 := (HX12.out.cell 2).trans (show _ = some (.int .i64 0) from rfl); have hfX12_2 := HX12.out.frozen 2; have hxX12_3 := (HX12.out.cell 3).trans (show _ = some (.slice none 0 0) from rfl); have hfX12_3 := HX12.out.frozen 3) | (have D_S_N := Aside0.mk (show ∀ k_, PS k_ → ¬ (fun _ : Nat => False) k_ from fun _ _ h_ => h_); have D_3_N := Aside0.mk (show ∀ k_, P3 k_ → ¬ (fun _ : Nat => False) k_ from fun _ _ h_ => h_); have D_F11_N := Aside0.mk (show ∀ k_, PF11 k_ → ¬ (fun _ : Nat => False) k_ from fun _ _ h_ => h_); have D_X12_N := Aside0.mk (show ∀ k_, PX12 k_ → ¬ (fun _ : Nat => False) k_ from fun _ _ h_ => h_); have HN := Aside0.mk trivial; (with_reducible refine gate_builtin (b := .append) (xs := #[.tmp 50, .tmp 52]) rfl ?_); at_builtin; refine LS.append1 k100 (w0 := w) rfl (.tmp 50) (.tmp 52) 55 100 (.agg #[.int .i64 0, .int .i64 0, .int .i64 0, .slice none 0 0]) 48 rfl Try.underlying55 info100 rfl (by decide) (by omega) (.slice B3 x3.length D3) x3 (⟨4, t5, 0, ([] : List Int)⟩ : S100) [.int .i64 4, .int .i64 t5, .int .i64 0, .slice none 0 0] rfl rfl (by simp) H3.out (k100_mkM _ _ (fun _ => False) (⟨4, t5, 0, ([] : List Int)⟩ : S100) (Kd.R_nil _ _ _ _ _)) D_3_N.out HB.out ?aL_17 ?_; (case aL_17 => have := LM.out; omega); intro PF13 v_ w2 HL hb hk hR; have D_S_F13 := Aside0.mk (apart_app hR HS.out.lt (apart_or D_S_3.out D_S_N.out)); have D_F11_F13 := Aside0.mk (apart_app hR HF11.out.lt (apart_or (apart_symm D_3_F11.out) D_F11_N.out)); have D_X12_F13 := Aside0.mk (apart_app hR HX12.out.lt (apart_or (apart_symm D_3_X12.out) D_X12_N.out)); replace HS := Aside0.mk (HS.out.step hk D_S_3.out); replace HF11 := Aside0.mk (HF11.out.step hk (apart_symm D_3_F11.out)); replace HX12 := Aside0.mk (HX12.out.step hk (apart_symm D_3_X12.out)); rw [← Ny1.out] at HL; have HF13 := Aside0.mk HL; replace HB := Aside0.mk hb; clear hR HL hb hk; clear H3; clear HN; obtain ⟨BF13, DF13, e_F13⟩ := HF13.out.val; subst e_F13; (try clear hxX12_0 hfX12_0 hxX12_1 hfX12_1 hxX12_2 hfX12_2 hxX12_3 hfX12_3); have hxX12_0 := (HX12.out.cell 0).trans (show _ = some (.int .i64 4) from rfl); have hfX12_0 := HX12.out.frozen 0; have hxX12_1 := (HX12.out.cell 1).trans (show _ = some (.int .i64 t5) from rfl); have hfX12_1 := HX12.out.frozen 1; have hxX12_2 := (HX12.out.cell 2).trans (show _ = some (.int .i64 0) from rfl); have hfX12_2 := HX12.out.frozen 2; have hxX12_3 := (HX12.out.cell 3).trans (show _ = some (.slice none 0 0) from rfl); have hfX12_3 := HX12.out.frozen 3))
                    go_roundg k2
                    case measure => have := HK1.out; omega
                    case rel => exact ⟨y1, wrap64 (x4 - 1), a5, b5, PF13, rfl, H', ⟨by have := HK1.out; omega⟩, HF13, HS, D_S_F13, HB⟩
                  · rw [if_neg cl] at H
                    exact absurd H (by simp)
                · rw [if_neg d3] at H
                  have cq3 : (t4 == 3) = false := beq_eq_false_iff_ne.mpr d3
                  by_cases d4 : t4 = 4
                  · rw [if_pos d4] at H
                    have cq4 : (t4 == 4) = true := beq_iff_eq.mpr d4
                    obtain ⟨⟨t5, a5, b5⟩, e5, H⟩ := Option.bind_eq_some_iff.1 H
                    have E5 := Aside0.mk e5
                    clear e5
                    simp only at H
                    obtain ⟨⟨t6, a6, b6⟩, e6, H⟩ := Option.bind_eq_some_iff.1 H
                    have E6 := Aside0.mk e6
                    clear e6
                    simp only at H
                    obtain ⟨⟨t7, a7, b7⟩, e7, H⟩ := Option.bind_eq_some_iff.1 H
                    have E7 := Aside0.mk e7
                    clear e7
                    simp only at H
                    by_cases cl : x3.length < 2932031007402
                    · rw [if_pos cl] at H
                      have LM := Aside0.mk cl
                      obtain ⟨y1, hy1⟩ : ∃ y_ : List S100, y_ = x3 ++ [(⟨t5, wrap64 (t6 - 1), wrap64 (t7 - 1), t3⟩ : S100)] := ⟨_, rfl⟩
                      rw [← hy1] at H
                      have Ny1 := Aside0.mk hy1
                      have H' := Aside0.mk H
                      clear H hy1 cl
                      go_wp2_with (first | ((with_reducible refine gate_callee (f := 103) rfl ?_); refine goesL_ (some 17) rfl rfl Try.func103 (by kernel_rfl) rfl #[.pointer (some ⟨g, 0, none⟩), .int .i64 8] rfl (by (try simp only [List.map_toArray, List.map_cons, List.map_nil]); first | done | rfl) ?_; (with_reducible refine (spec_l00Src_bytes.calls (k2 + 1) g s0_0 a b 8 t3 a3 b3 w _ HS.out.is HB.out E3.out).mono ?_); rintro e w2 ⟨vF14, rfl, hrF14, hi, hb, hkb⟩; refine ⟨_, rfl, ?_⟩; have hk := LI.kept HS.out hkb; obtain ⟨PF14, hPF14, HLF14⟩ := LR.fresh rfl HB.out hrF14; have HF14 := Aside0.mk HLF14; clear HLF14 hrF14; have D_S_F14 := Aside0.mk (new_apart HS.out.lt hPF14); have D_3_F14 := Aside0.mk (new_apart H3.out.lt hPF14); replace H3 := Aside0.mk (H3.out.step hk (apart_symm D_S_3.out)); replace HS := Aside0.mk (LI.new HS.out hi); replace HB := Aside0.mk hb; clear hi hb hk hkb; clear hPF14; obtain ⟨BF14, DF14, e_F14⟩ := HF14.out.val; subst e_F14) | ((with_reducible refine gate_dst (N := 5) rfl ?_); refine box_event ?hg_18 (N := 5) ?hd_18 (cs := #[.int .i64 0, .int .i64 0, .int .i64 0, .slice none 0 0]) (t := 100) ?hr_18 ?_; (case hd_18 => rfl); (case hg_18 => rfl); (case hr_18 => first | (go_simp; done) | (go_simp; rfl)); intro gX15 hg w2 hbox hb; have hk := kept_below hb; obtain ⟨PX15, hPX15, HLX15⟩ := LB.fresh hg hbox; have HX15 := Aside0.mk HLX15; clear HLX15; have GEX15 := Aside0.mk (show w.heap.size ≤ gX15 from (by rw [hg]; exact HB.out.size)); have D_S_X15 := Aside0.mk (new_apart HS.out.lt hPX15); have D_3_X15 := Aside0.mk (new_apart H3.out.lt hPX15); have D_F14_X15 := Aside0.mk (new_apart HF14.out.lt hPX15); replace HS := Aside0.mk (HS.out.step hk no_S); replace H3 := Aside0.mk (H3.out.step hk no_S); replace HF14 := Aside0.mk (HF14.out.step hk no_S); replace HB := Aside0.mk (below_step HB.out hb); clear hb hk hbox hg hPX15; (try clear hxX15_0 hfX15_0 hxX15_1 hfX15_1 hxX15_2 hfX15_2 hxX15_3 hfX15_3); have hxX15_0 := (HX15.out.cell 0).trans (show _ = some (.int .i64 0) from rfl); have hfX15_0 := HX15.out.frozen 0; have hxX15_1 := (HX15.out.cell 1).trans (show _ = some (.int .i64 0) from rfl); have hfX15_1 := HX15.out.frozen 1; have hxX15_2 := (HX15.out.cell 2).trans (show _ = some (.int .i64 0) from rfl); have hfX15_2 := HX15.out.frozen 2; have hxX15_3 := (HX15.out.cell 3).trans (show _ = some (.slice none 0 0) from rfl); have hfX15_3 := HX15.out.frozen 3) | ((with_reducible refine gate_store (t := 100) (p := 5) rfl ?_); refine LB.stored HX15.out HB.out GEX15.out 0 [.int .i64 1, .int .i64 0, .int .i64 0, .slice BF14 t3.length DF14] rfl (t := 100) (p := 5) rfl rfl ?hr_19 ?_; (case hr_19 => first | (go_simp; done) | (go_simp; rfl)); intro w2 hx hk hb; replace HS := Aside0.mk (HS.out.step hk D_S_X15.out); replace H3 := Aside0.mk (H3.out.step hk D_3_X15.out); replace HF14 := Aside0.mk (HF14.out.step hk D_F14_X15.out); replace HB := Aside0.mk hb; replace HX15 := Aside0.mk (show LB w2 PX15 gX15 100 #[.int .i64 1, .int .i64 0, .int .i64 0, .slice BF14 t3.length DF14] from hx); clear hk hx hb; (try clear hxX15_0 hfX15_0 hxX15_1 hfX15_1 hxX15_2 hfX15_2 hxX15_3 hfX15_3); have hxX15_0 := (HX15.out.cell 0).trans (show _ = some (.int .i64 1) from rfl); have hfX15_0 := HX15.out.frozen 0; have hxX15_1 := (HX15.out.cell 1).trans (show _ = some (.int .i64 0) from rfl); have hfX15_1 := HX15.out.frozen 1; have hxX15_2 := (HX15.out.cell 2).trans (show _ = some (.int .i64 0) from rfl); have hfX15_2 := HX15.out.frozen 2; have hxX15_3 := (HX15.out.cell 3).trans (show _ = some (.slice BF14 t3.length DF14) from rfl); have hfX15_3 := HX15.out.frozen 3) | ((with_reducible refine gate_callee (f := 101) rfl ?_); refine goesL_ (some 20) rfl rfl Try.func101 (by kernel_rfl) rfl #[.pointer (some ⟨g, 0, none⟩), .int .i64 8] rfl (by (try simp only [List.map_toArray, List.map_cons, List.map_nil]); first | done | rfl) ?_; (with_reducible refine (spec_l00Src_next.calls g s0_0 a3 b3 8 t4 a4 b4 w _ HS.out.is HB.out E4.out).mono ?_); rintro e w2 ⟨rfl, hi, hb, hkb⟩; refine ⟨_, rfl, ?_⟩; have hk := LI.kept HS.out hkb; replace H3 := Aside0.mk (H3.out.step hk (apart_symm D_S_3.out)); replace HF14 := Aside0.mk (HF14.out.step hk (apart_symm D_S_F14.out)); replace HX15 := Aside0.mk (HX15.out.step hk (apart_symm D_S_X15.out)); replace HS := Aside0.mk (LI.new HS.out hi); replace HB := Aside0.mk hb; clear hi hb hk hkb; (try clear hxX15_0 hfX15_0 hxX15_1 hfX15_1 hxX15_2 hfX15_2 hxX15_3 hfX15_3); have hxX15_0 := (HX15.out.cell 0).trans (show _ = some (.int .i64 1) from rfl); have hfX15_0 := HX15.out.frozen 0; have hxX15_1 := (HX15.out.cell 1).trans (show _ = some (.int .i64 0) from rfl); have hfX15_1 := HX15.out.frozen 1; have hxX15_2 := (HX15.out.cell 2).trans (show _ = some (.int .i64 0) from rfl); have hfX15_2 := HX15.out.frozen 2; have hxX15_3 := (HX15.out.cell 3).trans (show _ = some (.slice BF14 t3.length DF14) from rfl); have hfX15_3 := HX15.out.frozen 3) | ((with_reducible refine gate_callee (f := 101) rfl ?_); refine goesL_ (some 40) rfl rfl Try.func101 (by kernel_rfl) rfl #[.pointer (some ⟨g, 0, none⟩), .int .i64 6] rfl (by (try simp only [List.map_toArray, List.map_cons, List.map_nil]); first | done | rfl) ?_; (with_reducible refine (spec_l00Src_next.calls g s0_0 a4 b4 6 t5 a5 b5 w _ HS.out.is HB.out E5.out).mono ?_); rintro e w2 ⟨rfl, hi, hb, hkb⟩; refine ⟨_, rfl, ?_⟩; have hk := LI.kept HS.out hkb; replace H3 := Aside0.mk (H3.out.step hk (apart_symm D_S_3.out)); replace HF14 := Aside0.mk (HF14.out.step hk (apart_symm D_S_F14.out)); replace HX15 := Aside0.mk (HX15.out.step hk (apart_symm D_S_X15.out)); replace HS := Aside0.mk (LI.new HS.out hi); replace HB := Aside0.mk hb; clear hi hb hk hkb; (try clear hxX15_0 hfX15_0 hxX15_1 hfX15_1 hxX15_2 hfX15_2 hxX15_3 hfX15_3); have hxX15_0 := (HX15.out.cell 0).trans (show _ = some (.int .i64 1) from rfl); have hfX15_0 := HX15.out.frozen 0; have hxX15_1 := (HX15.out.cell 1).trans (show _ = some (.int .i64 0) from rfl); have hfX15_1 := HX15.out.frozen 1; have hxX15_2 := (HX15.out.cell 2).trans (show _ = some (.int .i64 0) from rfl); have hfX15_2 := HX15.out.frozen 2; have hxX15_3 := (HX15.out.cell 3).trans (show _ = some (.slice BF14 t3.length DF14) from rfl); have hfX15_3 := HX15.out.frozen 3) | ((with_reducible refine gate_store (t := 3) (p := 41) rfl ?_); refine LB.stored HX15.out HB.out GEX15.out 0 [.int .i64 t5] rfl (t := 3) (p := 41) rfl rfl ?hr_20 ?_; (case hr_20 => first | (go_simp; done) | (go_simp; rfl)); intro w2 hx hk hb; replace HS := Aside0.mk (HS.out.step hk D_S_X15.out); replace H3 := Aside0.mk (H3.out.step hk D_3_X15.out); replace HF14 := Aside0.mk (HF14.out.step hk D_F14_X15.out); replace HB := Aside0.mk hb; replace HX15 := Aside0.mk (show LB w2 PX15 gX15 100 #[.int .i64 t5, .int .i64 0, .int .i64 0, .slice BF14 t3.length DF14] from hx); clear hk hx hb; (try clear hxX15_0 hfX15_0 hxX15_1 hfX15_1 hxX15_2 hfX15_2 hxX15_3 hfX15_3); have hxX15_0 := (HX15.out.cell 0).trans (show _ = some (.int .i64 t5) from rfl); have hfX15_0 := HX15.out.frozen 0; have hxX15_1 := (HX15.out.cell 1).trans (show _ = some (.int .i64 0) from rfl); have hfX15_1 := HX15.out.frozen 1; have hxX15_2 := (HX15.out.cell 2).trans (show _ = some (.int .i64 0) from rfl); have hfX15_2 := HX15.out.frozen 2; have hxX15_3 := (HX15.out.cell 3).trans (show _ = some (.slice BF14 t3.length DF14) from rfl); have hfX15_3 := HX15.out.frozen 3) | ((with_reducible refine gate_callee (f := 101) rfl ?_); refine goesL_ (some 43) rfl rfl Try.func101 (by kernel_rfl) rfl #[.pointer (some ⟨g, 0, none⟩), .int .i64 5] rfl (by (try simp only [List.map_toArray, List.map_cons, List.map_nil]); first | done | rfl) ?_; (with_reducible refine (spec_l00Src_next.calls g s0_0 a5 b5 5 t6 a6 b6 w _ HS.out.is HB.out E6.out).mono ?_); rintro e w2 ⟨rfl, hi, hb, hkb⟩; refine ⟨_, rfl, ?_⟩; have hk := LI.kept HS.out hkb; replace H3 := Aside0.mk (H3.out.step hk (apart_symm D_S_3.out)); replace HF14 := Aside0.mk (HF14.out.step hk (apart_symm D_S_F14.out)); replace HX15 := Aside0.mk (HX15.out.step hk (apart_symm D_S_X15.out)); replace HS := Aside0.mk (LI.new HS.out hi); replace HB := Aside0.mk hb; clear hi hb hk hkb; (try clear hxX15_0 hfX15_0 hxX15_1 hfX15_1 hxX15_2 hfX15_2 hxX15_3 hfX15_3); have hxX15_0 := (HX15.out.cell 0).trans (show _ = some (.int .i64 t5) from rfl); have hfX15_0 := HX15.out.frozen 0; have hxX15_1 := (HX15.out.cell 1).trans (show _ = some (.int .i64 0) from rfl); have hfX15_1 := HX15.out.frozen 1; have hxX15_2 := (HX15.out.cell 2).trans (show _ = some (.int .i64 0) from rfl); have hfX15_2 := HX15.out.frozen 2; have hxX15_3 := (HX15.out.cell 3).trans (show _ = some (.slice BF14 t3.length DF14) from rfl); have hfX15_3 := HX15.out.frozen 3) | ((with_reducible refine gate_store (t := 3) (p := 45) rfl ?_); refine LB.stored HX15.out HB.out GEX15.out 1 [.int .i64 (wrap64 (t6 - 1))] rfl (t := 3) (p := 45) rfl rfl ?hr_21 ?_; (case hr_21 => first | (go_simp; done) | (go_simp; rfl)); intro w2 hx hk hb; replace HS := Aside0.mk (HS.out.step hk D_S_X15.out); replace H3 := Aside0.mk (H3.out.step hk D_3_X15.out); replace HF14 := Aside0.mk (HF14.out.step hk D_F14_X15.out); replace HB := Aside0.mk hb; replace HX15 := Aside0.mk (show LB w2 PX15 gX15 100 #[.int .i64 t5, .int .i64 (wrap64 (t6 - 1)), .int .i64 0, .slice BF14 t3.length DF14] from hx); clear hk hx hb; (try clear hxX15_0 hfX15_0 hxX15_1 hfX15_1 hxX15_2 hfX15_2 hxX15_3 hfX15_3); have hxX15_0 := (HX15.out.cell 0).trans (show _ = some (.int .i64 t5) from rfl); have hfX15_0 := HX15.out.frozen 0; have hxX15_1 := (HX15.out.cell 1).trans (show _ = some (.int .i64 (wrap64 (t6 - 1))) from rfl); have hfX15_1 := HX15.out.frozen 1; have hxX15_2 := (HX15.out.cell 2).trans (show _ = some (.int .i64 0) from rfl); have hfX15_2 := HX15.out.frozen 2; have hxX15_3 := (HX15.out.cell 3).trans (show _ = some (.slice BF14 t3.length DF14) from rfl); have hfX15_3 := HX15.out.frozen 3) | ((with_reducible refine gate_callee (f := 101) rfl ?_); refine goesL_ (some 47) rfl rfl Try.func101 (by kernel_rfl) rfl #[.pointer (some ⟨g, 0, none⟩), .int .i64 5] rfl (by (try simp only [List.map_toArray, List.map_cons, List.map_nil]); first | done | rfl) ?_; (with_reducible refine (spec_l00Src_next.calls g s0_0 a6 b6 5 t7 a7 b7 w _ HS.out.is HB.out E7.out).mono ?_); rintro e w2 ⟨rfl, hi, hb, hkb⟩; refine ⟨_, rfl, ?_⟩; have hk := LI.kept HS.out hkb; replace H3 := Aside0.mk (H3.out.step hk (apart_symm D_S_3.out)); replace HF14 := Aside0.mk (HF14.out.step hk (apart_symm D_S_F14.out)); replace HX15 := Aside0.mk (HX15.out.step hk (apart_symm D_S_X15.out)); replace HS := Aside0.mk (LI.new HS.out hi); replace HB := Aside0.mk hb; clear hi hb hk hkb; (try clear hxX15_0 hfX15_0 hxX15_1 hfX15_1 hxX15_2 hfX15_2 hxX15_3 hfX15_3); have hxX15_0 := (HX15.out.cell 0).trans (show _ = some (.int .i64 t5) from rfl); have hfX15_0 := HX15.out.frozen 0; have hxX15_1 := (HX15.out.cell 1).trans (show _ = some (.int .i64 (wrap64 (t6 - 1))) from rfl); have hfX15_1 := HX15.out.frozen 1; have hxX15_2 := (HX15.out.cell 2).trans (show _ = some (.int .i64 0) from rfl); have hfX15_2 := HX15.out.frozen 2; have hxX15_3 := (HX15.out.cell 3).trans (show _ = some (.slice BF14 t3.length DF14) from rfl); have hfX15_3 := HX15.out.frozen 3) | ((with_reducible refine gate_store (t := 3) (p := 49) rfl ?_); refine LB.stored HX15.out HB.out GEX15.out 2 [.int .i64 (wrap64 (t7 - 1))] rfl (t := 3) (p := 49) rfl rfl ?hr_22 ?_; (case hr_22 => first | (go_simp; done) | (go_simp; rfl)); intro w2 hx hk hb; replace HS := Aside0.mk (HS.out.step hk D_S_X15.out); replace H3 := Aside0.mk (H3.out.step hk D_3_X15.out); replace HF14 := Aside0.mk (HF14.out.step hk D_F14_X15.out); replace HB := Aside0.mk hb; replace HX15 := Aside0.mk (show LB w2 PX15 gX15 100 #[.int .i64 t5, .int .i64 (wrap64 (t6 - 1)), .int .i64 (wrap64 (t7 - 1)), .slice BF14 t3.length DF14] from hx); clear hk hx hb; (try clear hxX15_0 hfX15_0 hxX15_1 hfX15_1 hxX15_2 hfX15_2 hxX15_3 hfX15_3); have hxX15_0 := (HX15.out.cell 0).trans (show _ = some (.int .i64 t5) from rfl); have hfX15_0 := HX15.out.frozen 0; have hxX15_1 := (HX15.out.cell 1).trans (show _ = some (.int .i64 (wrap64 (t6 - 1))) from rfl); have hfX15_1 := HX15.out.frozen 1; have hxX15_2 := (HX15.out.cell 2).trans (show _ = some (.int .i64 (wrap64 (t7 - 1))) from rfl); have hfX15_2 := HX15.out.frozen 2; have hxX15_3 := (HX15.out.cell 3).trans (show _ = some (.slice BF14 t3.length DF14) from rfl); have hfX15_3 := HX15.out.frozen 3) | ((with_reducible refine gate_builtin (b := .append) (xs := #[.tmp 50, .tmp 52]) rfl ?_); at_builtin; refine LS.append1 k100 (w0 := w) rfl (.tmp 50) (.tmp 52) 55 100 (.agg #[.int .i64 0, .int .i64 0, .int .i64 0, .slice none 0 0]) 48 rfl Try.underlying55 info100 rfl (by decide) (by omega) (.slice B3 x3.length D3) x3 (⟨t5, wrap64 (t6 - 1), wrap64 (t7 - 1), t3⟩ : S100) [.int .i64 t5, .int .i64 (wrap64 (t6 - 1)), .int .i64 (wrap64 (t7 - 1)), .slice BF14 t3.length DF14] rfl rfl (by simp) H3.out (k100_mkM _ _ _ (⟨t5, wrap64 (t6 - 1), wrap64 (t7 - 1), t3⟩ : S100) HF14.out.1) D_3_F14.out HB.out ?aL_23 ?_; (case aL_23 => have := LM.out; omega); intro PF16 v_ w2 HL hb hk hR; have D_S_F16 := Aside0.mk (apart_app hR HS.out.lt (apart_or D_S_3.out D_S_F14.out)); have D_X15_F16 := Aside0.mk (apart_app hR HX15.out.lt (apart_or (apart_symm D_3_X15.out) (apart_symm D_F14_X15.out))); replace HS := Aside0.mk (HS.out.step hk D_S_3.out); replace HX15 := Aside0.mk (HX15.out.step hk (apart_symm D_3_X15.out)); rw [← Ny1.out] at HL; have HF16 := Aside0.mk HL; replace HB := Aside0.mk hb; clear hR HL hb hk; clear H3; clear HF14; obtain ⟨BF16, DF16, e_F16⟩ := HF16.out.val; subst e_F16; (try clear hxX15_0 hfX15_0 hxX15_1 hfX15_1 hxX15_2 hfX15_2 hxX15_3 hfX15_3); have hxX15_0 := (HX15.out.cell 0).trans (show _ = some (.int .i64 t5) from rfl); have hfX15_0 := HX15.out.frozen 0; have hxX15_1 := (HX15.out.cell 1).trans (show _ = some (.int .i64 (wrap64 (t6 - 1))) from rfl); have hfX15_1 := HX15.out.frozen 1; have hxX15_2 := (HX15.out.cell 2).trans (show _ = some (.int .i64 (wrap64 (t7 - 1))) from rfl); have hfX15_2 := HX15.out.frozen 2; have hxX15_3 := (HX15.out.cell 3).trans (show _ = some (.slice BF14 t3.length DF14) from rfl); have hfX15_3 := HX15.out.frozen 3))
                      go_roundg k2
                      case measure => have := HK1.out; omega
                      case rel => exact ⟨y1, wrap64 (x4 - 1), a7, b7, PF16, rfl, H', ⟨by have := HK1.out; omega⟩, HF16, HS, D_S_F16, HB⟩
                    · rw [if_neg cl] at H
                      exact absurd H (by simp)
                  · rw [if_neg d4] at H
                    have cq4 : (t4 == 4) = false := beq_eq_false_iff_ne.mpr d4
                    by_cases cl : x3.length < 2932031007402
                    · rw [if_pos cl] at H
                      have LM := Aside0.mk cl
                      obtain ⟨y1, hy1⟩ : ∃ y_ : List S100, y_ = x3 ++ [(⟨1, 0, 0, t3⟩ : S100)] := ⟨_, rfl⟩
                      rw [← hy1] at H
                      have Ny1 := Aside0.mk hy1
                      have H' := Aside0.mk H
                      clear H hy1 cl
                      go_wp2_with (first | ((with_reducible refine gate_callee (f := 103) rfl ?_); refine goesL_ (some 17) rfl rfl Try.func103 (by kernel_rfl) rfl #[.pointer (some ⟨g, 0, none⟩), .int .i64 8] rfl (by (try simp only [List.map_toArray, List.map_cons, List.map_nil]); first | done | rfl) ?_; (with_reducible refine (spec_l00Src_bytes.calls (k2 + 1) g s0_0 a b 8 t3 a3 b3 w _ HS.out.is HB.out E3.out).mono ?_); rintro e w2 ⟨vF17, rfl, hrF17, hi, hb, hkb⟩; refine ⟨_, rfl, ?_⟩; have hk := LI.kept HS.out hkb; obtain ⟨PF17, hPF17, HLF17⟩ := LR.fresh rfl HB.out hrF17; have HF17 := Aside0.mk HLF17; clear HLF17 hrF17; have D_S_F17 := Aside0.mk (new_apart HS.out.lt hPF17); have D_3_F17 := Aside0.mk (new_apart H3.out.lt hPF17); replace H3 := Aside0.mk (H3.out.step hk (apart_symm D_S_3.out)); replace HS := Aside0.mk (LI.new HS.out hi); replace HB := Aside0.mk hb; clear hi hb hk hkb; clear hPF17; obtain ⟨BF17, DF17, e_F17⟩ := HF17.out.val; subst e_F17) | ((with_reducible refine gate_dst (N := 5) rfl ?_); refine box_event ?hg_24 (N := 5) ?hd_24 (cs := #[.int .i64 0, .int .i64 0, .int .i64 0, .slice none 0 0]) (t := 100) ?hr_24 ?_; (case hd_24 => rfl); (case hg_24 => rfl); (case hr_24 => first | (go_simp; done) | (go_simp; rfl)); intro gX18 hg w2 hbox hb; have hk := kept_below hb; obtain ⟨PX18, hPX18, HLX18⟩ := LB.fresh hg hbox; have HX18 := Aside0.mk HLX18; clear HLX18; have GEX18 := Aside0.mk (show w.heap.size ≤ gX18 from (by rw [hg]; exact HB.out.size)); have D_S_X18 := Aside0.mk (new_apart HS.out.lt hPX18); have D_3_X18 := Aside0.mk (new_apart H3.out.lt hPX18); have D_F17_X18 := Aside0.mk (new_apart HF17.out.lt hPX18); replace HS := Aside0.mk (HS.out.step hk no_S); replace H3 := Aside0.mk (H3.out.step hk no_S); replace HF17 := Aside0.mk (HF17.out.step hk no_S); replace HB := Aside0.mk (below_step HB.out hb); clear hb hk hbox hg hPX18; (try clear hxX18_0 hfX18_0 hxX18_1 hfX18_1 hxX18_2 hfX18_2 hxX18_3 hfX18_3); have hxX18_0 := (HX18.out.cell 0).trans (show _ = some (.int .i64 0) from rfl); have hfX18_0 := HX18.out.frozen 0; have hxX18_1 := (HX18.out.cell 1).trans (show _ = some (.int .i64 0) from rfl); have hfX18_1 := HX18.out.frozen 1; have hxX18_2 := (HX18.out.cell 2).trans (show _ = some (.int .i64 0) from rfl); have hfX18_2 := HX18.out.frozen 2; have hxX18_3 := (HX18.out.cell 3).trans (show _ = some (.slice none 0 0) from rfl); have hfX18_3 := HX18.out.frozen 3) | ((with_reducible refine gate_store (t := 100) (p := 5) rfl ?_); refine LB.stored HX18.out HB.out GEX18.out 0 [.int .i64 1, .int .i64 0, .int .i64 0, .slice BF17 t3.length DF17] rfl (t := 100) (p := 5) rfl rfl ?hr_25 ?_; (case hr_25 => first | (go_simp; done) | (go_simp; rfl)); intro w2 hx hk hb; replace HS := Aside0.mk (HS.out.step hk D_S_X18.out); replace H3 := Aside0.mk (H3.out.step hk D_3_X18.out); replace HF17 := Aside0.mk (HF17.out.step hk D_F17_X18.out); replace HB := Aside0.mk hb; replace HX18 := Aside0.mk (show LB w2 PX18 gX18 100 #[.int .i64 1, .int .i64 0, .int .i64 0, .slice BF17 t3.length DF17] from hx); clear hk hx hb; (try clear hxX18_0 hfX18_0 hxX18_1 hfX18_1 hxX18_2 hfX18_2 hxX18_3 hfX18_3); have hxX18_0 := (HX18.out.cell 0).trans (show _ = some (.int .i64 1) from rfl); have hfX18_0 := HX18.out.frozen 0; have hxX18_1 := (HX18.out.cell 1).trans (show _ = some (.int .i64 0) from rfl); have hfX18_1 := HX18.out.frozen 1; have hxX18_2 := (HX18.out.cell 2).trans (show _ = some (.int .i64 0) from rfl); have hfX18_2 := HX18.out.frozen 2; have hxX18_3 := (HX18.out.cell 3).trans (show _ = some (.slice BF17 t3.length DF17) from rfl); have hfX18_3 := HX18.out.frozen 3) | ((with_reducible refine gate_callee (f := 101) rfl ?_); refine goesL_ (some 20) rfl rfl Try.func101 (by kernel_rfl) rfl #[.pointer (some ⟨g, 0, none⟩), .int .i64 8] rfl (by (try simp only [List.map_toArray, List.map_cons, List.map_nil]); first | done | rfl) ?_; (with_reducible refine (spec_l00Src_next.calls g s0_0 a3 b3 8 t4 a4 b4 w _ HS.out.is HB.out E4.out).mono ?_); rintro e w2 ⟨rfl, hi, hb, hkb⟩; refine ⟨_, rfl, ?_⟩; have hk := LI.kept HS.out hkb; replace H3 := Aside0.mk (H3.out.step hk (apart_symm D_S_3.out)); replace HF17 := Aside0.mk (HF17.out.step hk (apart_symm D_S_F17.out)); replace HX18 := Aside0.mk (HX18.out.step hk (apart_symm D_S_X18.out)); replace HS := Aside0.mk (LI.new HS.out hi); replace HB := Aside0.mk hb; clear hi hb hk hkb; (try clear hxX18_0 hfX18_0 hxX18_1 hfX18_1 hxX18_2 hfX18_2 hxX18_3 hfX18_3); have hxX18_0 := (HX18.out.cell 0).trans (show _ = some (.int .i64 1) from rfl); have hfX18_0 := HX18.out.frozen 0; have hxX18_1 := (HX18.out.cell 1).trans (show _ = some (.int .i64 0) from rfl); have hfX18_1 := HX18.out.frozen 1; have hxX18_2 := (HX18.out.cell 2).trans (show _ = some (.int .i64 0) from rfl); have hfX18_2 := HX18.out.frozen 2; have hxX18_3 := (HX18.out.cell 3).trans (show _ = some (.slice BF17 t3.length DF17) from rfl); have hfX18_3 := HX18.out.frozen 3) | ((with_reducible refine gate_builtin (b := .append) (xs := #[.tmp 50, .tmp 52]) rfl ?_); at_builtin; refine LS.append1 k100 (w0 := w) rfl (.tmp 50) (.tmp 52) 55 100 (.agg #[.int .i64 0, .int .i64 0, .int .i64 0, .slice none 0 0]) 48 rfl Try.underlying55 info100 rfl (by decide) (by omega) (.slice B3 x3.length D3) x3 (⟨1, 0, 0, t3⟩ : S100) [.int .i64 1, .int .i64 0, .int .i64 0, .slice BF17 t3.length DF17] rfl rfl (by simp) H3.out (k100_mkM _ _ _ (⟨1, 0, 0, t3⟩ : S100) HF17.out.1) D_3_F17.out HB.out ?aL_26 ?_; (case aL_26 => have := LM.out; omega); intro PF19 v_ w2 HL hb hk hR; have D_S_F19 := Aside0.mk (apart_app hR HS.out.lt (apart_or D_S_3.out D_S_F17.out)); have D_X18_F19 := Aside0.mk (apart_app hR HX18.out.lt (apart_or (apart_symm D_3_X18.out) (apart_symm D_F17_X18.out))); replace HS := Aside0.mk (HS.out.step hk D_S_3.out); replace HX18 := Aside0.mk (HX18.out.step hk (apart_symm D_3_X18.out)); rw [← Ny1.out] at HL; have HF19 := Aside0.mk HL; replace HB := Aside0.mk hb; clear hR HL hb hk; clear H3; clear HF17; obtain ⟨BF19, DF19, e_F19⟩ := HF19.out.val; subst e_F19; (try clear hxX18_0 hfX18_0 hxX18_1 hfX18_1 hxX18_2 hfX18_2 hxX18_3 hfX18_3); have hxX18_0 := (HX18.out.cell 0).trans (show _ = some (.int .i64 1) from rfl); have hfX18_0 := HX18.out.frozen 0; have hxX18_1 := (HX18.out.cell 1).trans (show _ = some (.int .i64 0) from rfl); have hfX18_1 := HX18.out.frozen 1; have hxX18_2 := (HX18.out.cell 2).trans (show _ = some (.int .i64 0) from rfl); have hfX18_2 := HX18.out.frozen 2; have hxX18_3 := (HX18.out.cell 3).trans (show _ = some (.slice BF17 t3.length DF17) from rfl); have hfX18_3 := HX18.out.frozen 3))
                      go_roundg k2
                      case measure => have := HK1.out; omega
                      case rel => exact ⟨y1, wrap64 (x4 - 1), a4, b4, PF19, rfl, H', ⟨by have := HK1.out; omega⟩, HF19, HS, D_S_F19, HB⟩
                    · rw [if_neg cl] at H
                      exact absurd H (by simp)
      · rw [if_neg c1] at H
        have cb1 : decide (0 < x4) = false := decide_eq_false c1
        clear c1
        simp only [Option.some.injEq, Prod.mk.injEq] at H
        obtain ⟨rfl, rfl, rfl⟩ := H
        go_wp2
        go_ret
        exact ⟨_, rfl, Kd.S_mono H3.out.1 (fun _ _ => trivial), HS.out.1, HB.out⟩

/-! ### spec_DiskActsOf: function 30 -/
def spec_DiskActsOf.f (k : Nat) (l0 : List Int) : Option ((List (S100))) := (spec_l00Source.f l0).bind fun bt270 => ((spec_l00Src_diskActs.f k bt270.1 bt270.2.1 bt270.2.2).bind fun bt274 => (some bt274.1))
theorem spec_DiskActsOf.mono : ∀ a0 k, LeO (spec_DiskActsOf.f k a0) (spec_DiskActsOf.f (k + 1) a0) := by
  intro a0 k
  unfold spec_DiskActsOf.f
  repeat' first
      | (with_reducible exact spec_l00Src_diskActs.mono _ _ _ _)
      | (with_reducible exact LeO.refl _)
      | (with_reducible exact LeO.none _)
      | (with_reducible refine LeO.ite ?_ ?_)
      | (with_reducible refine LeO.bind ?_ (fun _ => ?_))
      | exact spec_l00Src_diskActs.mono _ _ _ _
      | exact LeO.none _
      | refine LeO.ite ?_ ?_
      | refine LeO.bind ?_ (fun _ => ?_)
set_option maxHeartbeats 8000000 in
set_option maxRecDepth 100000 in
theorem spec_DiskActsOf.calls (k : Nat) (A0 : Option Addr) (c0 : Nat) (l0 : List Int) (r : List (S100)) (w : World) (hr0 : Kd.C (Kd.int .u8) w A0 l0.length l0) (hc0 : l0.length ≤ c0) (h : spec_DiskActsOf.f k l0 = some r) :
    Calls Try.prog 30 #[.slice A0 l0.length c0] w fun e w' => ∃ v0_ : Value, e = .returned (v0_) ∧ Kd.S k100 100 w' w.heap.size (fun _ => True) v0_ r ∧ Below w.heap.size w w' := by
  have HR0 := Aside0.mk hr0
  have HC0 := Aside0.mk hc0
  have HB := Aside0.mk (Below.refl w.heap.size w)
  unfold spec_DiskActsOf.f at h
  obtain ⟨⟨t1, t2, t3⟩, e1, h⟩ := Option.bind_eq_some_iff.1 h
  obtain ⟨⟨t4, t5, t6⟩, e2, h⟩ := Option.bind_eq_some_iff.1 h
  have A2 := Aside0.mk e1
  have A3 := Aside0.mk e2
  clear hr0 hc0 e1 e2
  obtain rfl := Option.some.inj h
  go_enter Try.func30, Try.ntmps30
  go_wp2_with (first | ((with_reducible refine gate_callee (f := 73) rfl ?_); refine goesL_ (some 4) rfl rfl Try.func73 (by kernel_rfl) rfl #[.slice A0 l0.length c0] rfl (by (try simp only [List.map_toArray, List.map_cons, List.map_nil]); first | done | rfl) ?_; (with_reducible refine (spec_l00Source.calls _ _ l0 t1 t2 t3 w _ HB.out HR0.out HC0.out A2.out).mono ?_); rintro e w4 ⟨gS, rfl, hi, hb, hb2⟩; refine ⟨_, rfl, ?_⟩; have HI := Aside0.mk hi; replace HB := Aside0.mk hb; clear hi hb hb2) | ((with_reducible refine gate_callee (f := 74) rfl ?_); refine goesL_ (some 5) rfl rfl Try.func74 (by kernel_rfl) rfl #[.pointer (some ⟨gS, 0, none⟩)] rfl (by (try simp only [List.map_toArray, List.map_cons, List.map_nil]); first | done | rfl) ?_; (with_reducible refine (spec_l00Src_diskActs.calls k gS t1 t2 t3 t4 t5 t6 w _ HI.out HB.out A3.out).mono ?_); rintro e w5 ⟨v5, rfl, hs, hi, hb⟩; refine ⟨_, rfl, ?_⟩; have HV := Aside0.mk hs; replace HB := Aside0.mk hb; clear hi hb hs HI))
  go_ret
  exact ⟨_, rfl, HV.out, HB.out⟩


/-! ### spec_l02Bytes: function 50 -/
def spec_l02Bytes.l0 : Nat → List Int → Int → List Int → List (List Int) → Option (List Int)
  | 0, _, _, _, _ => none
  | k + 1, x3, x4, x280000, x280001 => if x4 < (x280001.length : Int) then (if 0 ≤ x4 then (if x3.length + (rd_L1 x280001 x4).length < 140737488355328 then (spec_l02Bytes.l0 k (x3 ++ (rd_L1 x280001 x4)) (wrap64 (x4 + 1)) x280000 x280001) else (none)) else (none)) else (some x3)
def spec_l02Bytes.f (k : Nat) (l0_0 : List Int) (l0_1 : List (List Int)) : Option (List Int) := (some (([] : List Int) : List Int)).bind fun y280 => (if y280.length + l0_0.length < 140737488355328 then (spec_l02Bytes.l0 k (y280 ++ l0_0) 0 l0_0 l0_1) else (none))
theorem spec_l02Bytes.mono_l : ∀ k, (∀ y0 y1 y2 y3, LeO (spec_l02Bytes.l0 k y0 y1 y2 y3) (spec_l02Bytes.l0 (k + 1) y0 y1 y2 y3))
  | 0 => fun _ _ _ _ r h => by simp [spec_l02Bytes.l0] at h
  | k + 1 => by
    have ih0 := spec_l02Bytes.mono_l k
    · intro y0 y1 y2 y3
      unfold spec_l02Bytes.l0
      repeat' first
      | (with_reducible exact ih0 _ _ _ _)
      | (with_reducible exact LeO.refl _)
      | (with_reducible exact LeO.none _)
      | (with_reducible refine LeO.ite ?_ ?_)
      | (with_reducible refine LeO.bind ?_ (fun _ => ?_))
      | exact ih0 _ _ _ _
      | exact LeO.none _
      | refine LeO.ite ?_ ?_
      | refine LeO.bind ?_ (fun _ => ?_)
theorem spec_l02Bytes.mono : ∀ a0 a1 k, LeO (spec_l02Bytes.f k a0 a1) (spec_l02Bytes.f (k + 1) a0 a1) := by
  intro a0 a1 k
  have ih0 := spec_l02Bytes.mono_l k
  unfold spec_l02Bytes.f
  repeat' first
      | (with_reducible exact ih0 _ _ _ _)
      | (with_reducible exact LeO.refl _)
      | (with_reducible exact LeO.none _)
      | (with_reducible refine LeO.ite ?_ ?_)
      | (with_reducible refine LeO.bind ?_ (fun _ => ?_))
      | exact ih0 _ _ _ _
      | exact LeO.none _
      | refine LeO.ite ?_ ?_
      | refine LeO.bind ?_ (fun _ => ?_)
set_option maxHeartbeats 8000000 in
set_option maxRecDepth 100000 in
theorem spec_l02Bytes.calls (k : Nat) (A0_0 : Option Addr) (c0_0 : Nat) (l0_0 : List Int) (A0_1 : Option Addr) (c0_1 : Nat) (l0_1 : List (List Int)) (r : List Int) (w : World) (hr0_0 : Kd.C (Kd.int .u8) w A0_0 l0_0.length l0_0) (hc0_0 : l0_0.length ≤ c0_0) (hr0_1 : Kd.C (Kd.slice 5 (Kd.int .u8)) w A0_1 l0_1.length l0_1) (hc0_1 : l0_1.length ≤ c0_1) (h : spec_l02Bytes.f k l0_0 l0_1 = some r) :
    Calls Try.prog 50 #[.agg #[.slice A0_0 l0_0.length c0_0, .slice A0_1 l0_1.length c0_1]] w fun e w' => ∃ v0_ : Value, e = .returned (v0_) ∧ Kd.R (Kd.int .u8) 5 w' w.heap.size (fun _ => True) v0_ r ∧ Below w.heap.size w w' := by
  have hu29 := Try.underlying29
  have HR0_0 := Aside0.mk hr0_0
  have HC0_0 := Aside0.mk hc0_0
  clear hr0_0 hc0_0
  have HR0_1 := Aside0.mk hr0_1
  have HC0_1 := Aside0.mk hc0_1
  clear hr0_1 hc0_1
  have HB := Aside0.mk (Below.refl w.heap.size w)
  have H : ((some (([] : List Int) : List Int)).bind fun y280 => (if y280.length + l0_0.length < 140737488355328 then (spec_l02Bytes.l0 k (y280 ++ l0_0) 0 l0_0 l0_1) else (none))) = some r := h
  clear h
  obtain ⟨y280, hy280⟩ : ∃ y_ : List Int, y_ = (([] : List Int)) := ⟨_, rfl⟩
  replace H : (if y280.length + l0_0.length < 140737488355328 then (spec_l02Bytes.l0 k (y280 ++ l0_0) 0 l0_0 l0_1) else (none)) = some r := by first | (rw [hy280]; with_reducible exact H) | (have H2_ := (Option.bind_some _ _).symm.trans H; rw [hy280]; with_reducible exact H2_) | (have H2_ := (Option.bind_some _ _).symm.trans H; with_reducible exact H2_) | with_reducible exact H | (rw [hy280]; exact H) | exact H
  have Ny280 := Aside0.mk hy280
  clear hy280
  by_cases c2 : y280.length + l0_0.length < 140737488355328
  · rw [if_pos c2] at H
    have LMc2 := Aside0.mk c2
    clear c2
    obtain ⟨y283, hy283⟩ : ∃ y_ : List Int, y_ = (y280 ++ l0_0) := ⟨_, rfl⟩
    replace H : (spec_l02Bytes.l0 k y283 0 l0_0 l0_1) = some r := by first | (rw [hy283]; with_reducible exact H) | (have H2_ := (Option.bind_some _ _).symm.trans H; rw [hy283]; with_reducible exact H2_) | (have H2_ := (Option.bind_some _ _).symm.trans H; with_reducible exact H2_) | with_reducible exact H | (rw [hy283]; exact H) | exact H
    have Ny283 := Aside0.mk hy283
    clear hy283
    have H' := Aside0.mk H
    clear H
    go_enter Try.func50, Try.ntmps50
    go_wp2_with (first | ((with_reducible refine gate_dst (N := 1) rfl ?_); refine box_event ?hg (N := 1) ?hd (cs := #[.slice A0_0 l0_0.length c0_0, .slice A0_1 l0_1.length c0_1]) (t := 29) ?hr ?_; (case hd => rfl); (case hg => rfl); (case hr => first | (go_simp; done) | (go_simp; rfl)); intro gb279 hg w3 hbox hb; have n0_ := Aside0.mk (below_step (by repeat (first | (with_reducible first | exact HB.out | apply below_alloc | apply pw_below_drewN | apply below_drew1) | exact HB.out)) hb); have n1_ := Aside0.mk (hbox); have n2_ := Aside0.mk ((by rw [hg]; exact (below_size (by repeat (first | (with_reducible first | exact HB.out | apply below_alloc | apply pw_below_drewN | apply below_drew1) | exact HB.out))) : w.heap.size ≤ gb279)); have n3_ := Aside0.mk ((by rw [hg]; exact (below_size (by repeat (first | (with_reducible first | exact HB.out | apply below_alloc | apply pw_below_drewN | apply below_drew1) | exact HB.out))) : w.heap.size ≤ gb279)); clear HB; have HB := n0_; have BK279 := n1_; have GW279 := n2_; have GE279 := n3_; clear n0_ n1_ n2_ n3_; clear hb hbox hg) | ((with_reducible refine gate_dst (N := 5) rfl ?_); refine Kd.R_lit (Kd.int .u8) _ 5 ?hg (N := 5) ?hd (xs := ([] : List Int)) (inner := []) (ok := fun _ => True) (okp := fun _ => True) ?hr ?hp (fun _ hk => hk) trivial (Below.refl _ _) (Nat.le_refl _) (by simp) ?_; (case hd => rfl); (case hg => rfl); (case hr => first | (go_simp; done) | (go_simp; rfl)); (case hp => exact (Reps.none _ _)); intro v281 w4 ho5 hb hg_ hnew_; clear hg_ hnew_; (first | rw [← Ny280.out] at ho5 | (simp only [Int.reduceToNat] at ho5; rw [← Ny280.out] at ho5)); have n0_ := Aside0.mk (Kd.R_lower ho5 (below_size (by repeat (first | (with_reducible first | exact HB.out | apply below_alloc | apply pw_below_drewN | apply below_drew1 | refine below_set ?_ GE279.out) | exact HB.out)))); have n1_ := Aside0.mk (blk_below (g := gb279) (o := .cells #[.slice A0_0 l0_0.length c0_0, .slice A0_1 l0_1.length c0_1] 29 (0, 0)) (by (with_reducible repeat (first | refine blk_drewN ?_ _ | refine blk_drew ?_ | refine blk_alloc ?_ _)); exact BK279.out) hb); have n2_ := Aside0.mk (below_step (by repeat (first | (with_reducible first | exact HB.out | apply below_alloc | apply pw_below_drewN | apply below_drew1 | refine below_set ?_ GE279.out) | exact HB.out)) hb); clear BK279; clear HB; have HO282 := n0_; have BK279 := n1_; have HB := n2_; clear n0_ n1_ n2_; clear hb ho5; have hcz6_0 : w4.cell? ⟨gb279, 0, none⟩ = some (.slice A0_0 l0_0.length c0_0) := (blk_cell BK279.out 0).trans rfl; have hcz6_1 : w4.cell? ⟨gb279, 1, none⟩ = some (.slice A0_1 l0_1.length c0_1) := (blk_cell BK279.out 1).trans rfl; have hfz6_0 := blk_frozen BK279.out 0; have hfz6_1 := blk_frozen BK279.out 1) | ((with_reducible refine gate_builtin (b := .append) (xs := #[.tmp 5, .tmp 7]) rfl ?_); at_builtin; refine Kd.R_append_rows (Kd.int .u8) (w0 := w) w.heap.size rfl (.tmp 5) (.tmp 7) 22 5 (.int .u8 0) 1 rfl Try.underlying22 info5 rfl (by decide) (by omega) v281 y280 l0_0 _ _ _ (fun _ => True) (fun _ => False) rfl rfl ?aO ?aR (fun _ _ h => h) (fun _ h => h.elim) ?aF ?aB ?aS ?aL ?_; (case aR => repeat (first | exact (Kd.C_below HR0_0.out HB.out) | (with_reducible refine Kd.C_alloc ?_ _) | (with_reducible refine Kd.C_drewN ?_ _) | (with_reducible refine Kd.C_drew ?_))); (case aB => exact (by repeat (first | (with_reducible first | exact HB.out | apply below_alloc | apply pw_below_drewN | apply below_drew1 | refine below_set ?_ GE279.out) | exact HB.out))); (case aF => exact (fun _ _ => trivial)); (case aO => exact (by (with_reducible repeat (first | apply Kd.R_alloc | apply Kd.R_drewN | apply Kd.R_drew)); exact HO282.out)); (case aS => exact (below_size (by repeat (first | (with_reducible first | exact HB.out | apply below_alloc | apply pw_below_drewN | apply below_drew1 | refine below_set ?_ GE279.out) | exact HB.out)))); (case aL => have := LMc2.out; omega); intro v284 w7 ho hb hg hat; rw [← Ny283.out] at ho; have n0_ := Aside0.mk (blk_grown (g := gb279) (o := .cells #[.slice A0_0 l0_0.length c0_0, .slice A0_1 l0_1.length c0_1] 29 (0, 0)) (by (with_reducible repeat (first | refine blk_drewN ?_ _ | refine blk_drew ?_ | refine blk_alloc ?_ _)); exact BK279.out) hg (Kd.R_ne HO282.out BK279.out (by decide))); have n1_ := Aside0.mk (hb); have n2_ := Aside0.mk (ho); clear BK279; clear HB; clear HO282; have BK279 := n0_; have HB := n1_; have HO285 := n2_; clear n0_ n1_ n2_; clear ho hb hg hat))
    go_loopg [3, 4] k (fun kq v3 v4 w' => ∃ (x3_1 : List Int) (x4_1 : Int), v4 = .int .i64 x4_1 ∧ Aside0 (spec_l02Bytes.l0 kq x3_1 x4_1 l0_0 l0_1 = some r) ∧ Aside0 (kq ≤ k) ∧ Aside0 (Kd.R (Kd.int .u8) 5 w' w.heap.size (fun _ => True) v3 x3_1) ∧ Aside0 (w'.heap[gb279]? = some (.cells #[(.slice A0_0 l0_0.length c0_0), (.slice A0_1 l0_1.length c0_1)] 29 (0, 0))) ∧ Aside0 (Below w.heap.size w w'))
    case atStart => exact ⟨(y283), (0), (by first | rfl | (simp; done) | (simp [*]; done)), H', ⟨Nat.le_refl _⟩, ⟨by (with_reducible repeat (first | apply Kd.R_alloc | apply Kd.R_drewN | apply Kd.R_drew)); exact HO285.out⟩, ⟨by (with_reducible repeat (first | refine blk_drewN ?_ _ | refine blk_drew ?_ | refine blk_alloc ?_ _)); exact BK279.out⟩, ⟨by repeat (first | (with_reducible first | exact HB.out | apply below_alloc | apply pw_below_drewN | apply below_drew1 | refine below_set ?_ GE279.out) | exact HB.out)⟩⟩
    case round =>
      clear H'
      try clear c2
      try clear p2
      try clear c5
      try clear hcz6_0
      try clear hcz6_1
      try clear hfz6_0
      try clear hfz6_1
      obtain ⟨x3_1, x4_1, rfl, HA, HK1, HO_3, BK279, HB⟩ := hrel
      cases gk with
      | zero => exact absurd HA.out (by simp [spec_l02Bytes.l0])
      | succ k1 =>
        have H := HA.out
        clear HA
        simp only [spec_l02Bytes.l0] at H
        by_cases c8 : x4_1 < (l0_1.length : Int)
        · rw [if_pos c8] at H
          have c8b0 : decide (x4_1 < (l0_1.length : Int)) = true := decide_eq_true c8
          clear c8
          by_cases c9 : 0 ≤ x4_1
          · rw [if_pos c9] at H
            have c9b0 : decide (0 ≤ x4_1) = true := decide_eq_true c9
            clear c9
            by_cases c10 : x3_1.length + (rd_L1 l0_1 x4_1).length < 140737488355328
            · rw [if_pos c10] at H
              have LMc10 := Aside0.mk c10
              clear c10
              obtain ⟨y287, hy287⟩ : ∃ y_ : List Int, y_ = (x3_1 ++ (rd_L1 l0_1 x4_1)) := ⟨_, rfl⟩
              replace H : (spec_l02Bytes.l0 k1 y287 (wrap64 (x4_1 + 1)) l0_0 l0_1) = some r := by first | (rw [hy287]; with_reducible exact H) | (have H2_ := (Option.bind_some _ _).symm.trans H; rw [hy287]; with_reducible exact H2_) | (have H2_ := (Option.bind_some _ _).symm.trans H; with_reducible exact H2_) | with_reducible exact H | (rw [hy287]; exact H) | exact H
              have Ny287 := Aside0.mk hy287
              clear hy287
              have H' := Aside0.mk H
              clear H
              have hcz11_0 : wr.cell? ⟨gb279, 0, none⟩ = some (.slice A0_0 l0_0.length c0_0) := (blk_cell BK279.out 0).trans rfl
              have hcz11_1 : wr.cell? ⟨gb279, 1, none⟩ = some (.slice A0_1 l0_1.length c0_1) := (blk_cell BK279.out 1).trans rfl
              have hfz11_0 := blk_frozen BK279.out 0
              have hfz11_1 := blk_frozen BK279.out 1
              have p286 : 0 ≤ (x4_1 : Int) := of_decide_eq_true (by first | (with_reducible assumption) | assumption)
              have q286 : x4_1 < (l0_1.length : Int) := of_decide_eq_true (by first | (with_reducible assumption) | assumption)
              obtain ⟨ad286, A286_0, c286_0, e286, hx286_0, hl286_0, hi286_0⟩ := at_L1 HR0_1.out x4_1 p286 q286
              cases e286
              replace hx286_0 := (HB.out.cell (World.block_lt_of_cell? w _ hx286_0)).trans hx286_0
              have HR286_0 := Aside0.mk hi286_0
              have HC286_0 := Aside0.mk hl286_0
              clear hi286_0 hl286_0
              replace p286 := eq_true p286
              replace q286 := eq_true q286
              go_wp2_with (first | ((with_reducible refine gate_builtin (b := .append) (xs := #[.tmp 16, .tmp 21]) rfl ?_); at_builtin; refine Kd.R_append_rows (Kd.int .u8) (w0 := w) w.heap.size rfl (.tmp 16) (.tmp 21) 22 5 (.int .u8 0) 1 rfl Try.underlying22 info5 rfl (by decide) (by omega) u3 x3_1 (rd_L1 l0_1 x4_1) _ _ _ (fun _ => True) (fun _ => False) rfl rfl ?aO ?aR (fun _ _ h => h) (fun _ h => h.elim) ?aF ?aB ?aS ?aL ?_; (case aR => repeat (first | exact (Kd.C_below HR286_0.out HB.out) | (with_reducible refine Kd.C_alloc ?_ _) | (with_reducible refine Kd.C_drewN ?_ _) | (with_reducible refine Kd.C_drew ?_))); (case aB => exact (by repeat (first | (with_reducible first | exact HB.out | apply below_alloc | apply pw_below_drewN | apply below_drew1 | refine below_set ?_ GE279.out) | exact HB.out))); (case aF => exact (fun _ _ => trivial)); (case aO => exact (by (with_reducible repeat (first | apply Kd.R_alloc | apply Kd.R_drewN | apply Kd.R_drew)); exact HO_3.out)); (case aS => exact (below_size (by repeat (first | (with_reducible first | exact HB.out | apply below_alloc | apply pw_below_drewN | apply below_drew1 | refine below_set ?_ GE279.out) | exact HB.out)))); (case aL => have := LMc10.out; omega); intro v288 w12 ho hb hg hat; rw [← Ny287.out] at ho; have n0_ := Aside0.mk (blk_grown (g := gb279) (o := .cells #[.slice A0_0 l0_0.length c0_0, .slice (some ad286) l0_1.length c0_1] 29 (0, 0)) (by (with_reducible repeat (first | refine blk_drewN ?_ _ | refine blk_drew ?_ | refine blk_alloc ?_ _)); exact BK279.out) hg (Kd.R_ne HO_3.out BK279.out (by decide))); have n1_ := Aside0.mk (hb); have n2_ := Aside0.mk (ho); clear BK279; clear HB; clear HO_3; have BK279 := n0_; have HB := n1_; have HO289 := n2_; clear n0_ n1_ n2_; clear ho hb hg hat))
              go_roundg k1
              case measure => have := HK1.out; omega
              case rel => exact ⟨(y287), (wrap64 (x4_1 + 1)), (by first | rfl | (simp; done) | (simp [*]; done)), H', ⟨by have := HK1.out; omega⟩, ⟨by (with_reducible repeat (first | apply Kd.R_alloc | apply Kd.R_drewN | apply Kd.R_drew)); exact HO289.out⟩, ⟨by (with_reducible repeat (first | refine blk_drewN ?_ _ | refine blk_drew ?_ | refine blk_alloc ?_ _)); exact BK279.out⟩, ⟨by repeat (first | (with_reducible first | exact HB.out | apply below_alloc | apply pw_below_drewN | apply below_drew1 | refine below_set ?_ GE279.out) | exact HB.out)⟩⟩
            · rw [if_neg c10] at H
              exact absurd H (by simp)
          · rw [if_neg c9] at H
            exact absurd H (by simp)
        · rw [if_neg c8] at H
          have c8b0 : decide (x4_1 < (l0_1.length : Int)) = false := decide_eq_false c8
          clear c8
          obtain rfl := Option.some.inj H
          have hcz13_0 : wr.cell? ⟨gb279, 0, none⟩ = some (.slice A0_0 l0_0.length c0_0) := (blk_cell BK279.out 0).trans rfl
          have hcz13_1 : wr.cell? ⟨gb279, 1, none⟩ = some (.slice A0_1 l0_1.length c0_1) := (blk_cell BK279.out 1).trans rfl
          have hfz13_0 := blk_frozen BK279.out 0
          have hfz13_1 := blk_frozen BK279.out 1
          go_wp2
          go_ret
          exact ⟨_, by first | rfl | (simp [errW_none, errW_some] <;> rfl) | (simp [*, errW_none, errW_some] <;> rfl), by (with_reducible repeat (first | apply Kd.R_alloc | apply Kd.R_drewN | apply Kd.R_drew)); exact HO_3.out, by repeat (first | (with_reducible first | exact HB.out | apply below_alloc | apply pw_below_drewN | apply below_drew1 | refine below_set ?_ GE279.out) | exact HB.out)⟩
  · rw [if_neg c2] at H
    exact absurd H (by simp)

end Go.Proofs.Ytfclobfoghbblaa.PFnDisk
