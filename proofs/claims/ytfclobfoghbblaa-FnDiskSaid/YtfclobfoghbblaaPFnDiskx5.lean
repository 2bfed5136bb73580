-- written by a program of this session (a copy of the print, widened: wip/patchprint.py)
import Derived.Test.YtfclobfoghbblaaPFnDiskx0
import Derived.Test.YtfclobfoghbblaaPFnDiskx3
import Derived.Test.YtfclobfoghbblaaPFnDiskx4
import Derived.Test.YtfclobfoghbblaaHw
import Derived.Deep.RegionHeld3
import Derived.Deep.Cut
namespace Go.Proofs.Ytfclobfoghbblaa.PFnDisk
open Go.RowKit Go.Proofs.Ytfclobfoghbblaa.Lawful Go.Proofs.YtfclobfoghbblaaW.PrintWords Go.Proofs.YtfclobfoghbblaaW.PrintLast Go.Proofs.YtfclobfoghbblaaW.PrintMore
attribute [local go_sem] max2_int min2_int max_two min_two max_three min_three max_four min_four   -- for this text's walks alone
set_option linter.unusedVariables false
set_option linter.unusedSimpArgs false

/-! ### spec_l02Act: function 75 -/
def spec_l02Act.f (k : Nat) (l0_0 : List Int) (l0_1 : List (List Int)) (a1_0 : Int) (a1_1 : Int) (a1_2 : Int) (l1_3 : List Int) : Option (List Int × (List (List Int)) × Int) := if a1_0 = 1 then ((spec_l02Size.f k l0_0 l0_1).bind fun t313 => (if (l1_3.length : Int) > (wrap64 (8192 - t313)) then (some (l0_0, l0_1, 7)) else ((some (([] : List (List Int)) : List (List Int))).bind fun y314 => (if y314.length + l0_1.length < 5864062014805 then ((some (y314 ++ l0_1 : List (List Int))).bind fun y317 => ((some (([] : List Int) : List Int)).bind fun y320 => (if y320.length + l1_3.length < 140737488355328 then (if y317.length < 5864062014805 then (some (l0_0, (y317 ++ [(y320 ++ l1_3)]), 0)) else (none)) else (none)))) else (none))))) else (if a1_0 = 2 then ((spec_l02Bytes.f k l0_0 l0_1).bind fun t329 => (some (t329, ([] : List (List Int)), 0))) else (if a1_0 = 3 then (if a1_1 < 0 then (some (l0_0, l0_1, 5)) else (if a1_2 < 0 then (some (l0_0, l0_1, 5)) else ((spec_l02Crash.f k l0_0 l0_1 a1_1 a1_2).bind fun bt332 => (some (bt332.1, bt332.2, 0))))) else (if a1_0 = 4 then ((spec_l02Bytes.f k l0_0 l0_1).bind fun t338 => ((spec_l02In.f a1_1 0 (t338.length : Int)).bind fun t341 => (if t341 = true then (if 0 ≤ a1_1 then (if a1_1 ≤ (t338.length : Int) then (some ((t338.take (a1_1 : Int).toNat), ([] : List (List Int)), 0)) else (none)) else (none)) else (some (l0_0, l0_1, 5))))) else (some (l0_0, l0_1, 3)))))
theorem spec_l02Act.mono : ∀ a0 a1 a2 a3 a4 a5 k, LeO (spec_l02Act.f k a0 a1 a2 a3 a4 a5) (spec_l02Act.f (k + 1) a0 a1 a2 a3 a4 a5) := by
  intro a0 a1 a2 a3 a4 a5 k
  unfold spec_l02Act.f
  repeat' first
      | (with_reducible exact spec_l02Bytes.mono _ _ _)
      | (with_reducible exact spec_l02Crash.mono _ _ _ _ _)
      | (with_reducible exact spec_l02Size.mono _ _ _)
      | (with_reducible exact LeO.refl _)
      | (with_reducible exact LeO.none _)
      | (with_reducible refine LeO.ite ?_ ?_)
      | (with_reducible refine LeO.bind ?_ (fun _ => ?_))
      | exact spec_l02Bytes.mono _ _ _
      | exact spec_l02Crash.mono _ _ _ _ _
      | exact spec_l02Size.mono _ _ _
      | exact LeO.none _
      | refine LeO.ite ?_ ?_
      | refine LeO.bind ?_ (fun _ => ?_)
def spec_l02Act.T3 : Bool × List (List Nat × List Nat) := (true, [([], []), ([0], [0]), ([1], [1]), ([], []), ([3], [3]), ([4], [4]), ([2, 5], [2, 5])])
def spec_l02Act.B3 : List Nat := [0, 1, 3, 0, 8, 24, 63]
theorem spec_l02Act.tab3 : rtab .any (opsOf Try.f75 3) = spec_l02Act.T3 := by kernel_rfl
theorem spec_l02Act.bits3 : waitsOk spec_l02Act.T3.2 spec_l02Act.B3 = true := by kernel_rfl
def spec_l02Act.T5 : Bool × List (List Nat × List Nat) := (true, [([], []), ([], []), ([1], [1]), ([0, 2], [0, 2]), ([], []), ([], []), ([5], [5]), ([4, 6, 3], [4, 6]), ([7], [7]), ([3, 8, 7], [3, 8]), ([0, 1, 2, 3, 4, 5, 6, 7, 8, 9], []), ([10, 9, 9, 0, 1, 2, 3, 4, 5, 6, 7, 8, 9], [9, 10])])
def spec_l02Act.B5 : List Nat := [0, 0, 2, 7, 0, 0, 32, 127, 255, 511, 1023, 2047]
theorem spec_l02Act.tab5 : rtab .any (opsOf Try.f75 5) = spec_l02Act.T5 := by kernel_rfl
theorem spec_l02Act.bits5 : waitsOk spec_l02Act.T5.2 spec_l02Act.B5 = true := by kernel_rfl
/-- What the reference's act hands back: the disk that it was given, or one that is new, or both in part. -/
def spec_l02Act.Post (P0 P1 : Nat → Prop) (r1 : List Int) (r2 : List (List Int)) (r3 : Int) (w0 w : World) (e : Ending) (w' : World) : Prop := ∃ (v0' v1' : Value) (P0' P1' : Nat → Prop), e = .returned (.tuple #[.agg #[v0', v1'], .int .i64 r3]) ∧ LN (Kd.int .u8) 5 w' w0.heap.size P0' v0' r1 ∧ LN (Kd.slice 5 (Kd.int .u8)) 22 w' w0.heap.size P1' v1' r2 ∧ (∀ k_, P0' k_ → (P0 k_ ∨ P1 k_) ∨ w.heap.size ≤ k_) ∧ (∀ k_, P1' k_ → (P0 k_ ∨ P1 k_) ∨ w.heap.size ≤ k_) ∧ (∀ k_, P0' k_ → ¬ P1' k_) ∧ Below w.heap.size w w'
set_option maxHeartbeats 16000000 in
set_option maxRecDepth 100000 in
theorem spec_l02Act.calls (k : Nat) (P0 P1 : Nat → Prop) (v0 v1 : Value) (l0 : List Int) (l1 : List (List Int)) (a0 a1 a2 : Int) (A3 : Option Addr) (c3 : Nat) (l3 : List Int) (r1 : List Int) (r2 : List (List Int)) (r3 : Int) (w0 w : World) (h0 : LN (Kd.int .u8) 5 w w0.heap.size P0 v0 l0) (h1 : LN (Kd.slice 5 (Kd.int .u8)) 22 w w0.heap.size P1 v1 l1) (hd : ∀ k_, P0 k_ → ¬ P1 k_) (hr3 : Kd.C (Kd.int .u8) w A3 l3.length l3) (hc3 : l3.length ≤ c3) (h : spec_l02Act.f k l0 l1 a0 a1 a2 l3 = some (r1, r2, r3)) :
    Calls Try.prog 75 #[.agg #[v0, v1], .agg #[.int .i64 a0, .int .i64 a1, .int .i64 a2, .slice A3 l3.length c3]] w fun e w' => spec_l02Act.Post P0 P1 r1 r2 r3 w0 w e w' := by
  have hu := Try.underlying29
  have hu2 := Try.underlying100
  have H0 := Aside0.mk h0
  have H1 := Aside0.mk h1
  have D_0_1 := Aside0.mk hd
  have HR3 := Aside0.mk hr3
  have HL3 := Aside0.mk hc3
  clear h0 h1 hr3 hc3 hd
  have HB := Aside0.mk (Below.refl w.heap.size w)
  have RR0 := Aside0.mk (show ∀ k_, P0 k_ → (fun k_ => P0 k_ ∨ P1 k_) k_ ∨ w.heap.size ≤ k_ from fun _ hk => .inl (.inl hk))
  have RR1 := Aside0.mk (show ∀ k_, P1 k_ → (fun k_ => P0 k_ ∨ P1 k_) k_ ∨ w.heap.size ≤ k_ from fun _ hk => .inl (.inr hk))
  obtain ⟨B0, D0, e_0⟩ := H0.out.val
  subst e_0
  obtain ⟨B1, D1, e_1⟩ := H1.out.val
  subst e_1
  unfold spec_l02Act.f at h
  by_cases k1 : a0 = 1
  · rw [if_pos k1] at h
    have k1b : (a0 == 1) = true := beq_iff_eq.mpr k1
    clear k1
    obtain ⟨t1, e1, h⟩ := Option.bind_eq_some_iff.1 h
    have E1 := Aside0.mk e1
    clear e1
    by_cases c1 : (l3.length : Int) > wrap64 (8192 - t1)
    · rw [if_pos c1] at h
      have cb1 : decide (wrap64 (8192 - t1) < (l3.length : Int)) = true := decide_eq_true c1
      clear c1
      simp only [Option.some.injEq, Prod.mk.injEq] at h
      obtain ⟨rfl, rfl, rfl⟩ := h
      go_enter Try.func75, Try.ntmps75
      go_upto_region 3 with (first | ((with_reducible refine gate_dst (N := 2) rfl ?_); refine box_event ?hg_1 (N := 2) ?hd_1 (cs := #[.slice B0 l0.length D0, .slice B1 l1.length D1]) (t := 29) ?hr_1 ?_; (case hd_1 => rfl); (case hg_1 => rfl); (case hr_1 => first | (go_simp; done) | (go_simp; rfl)); intro gX1 hg w2 hbox hb; have hk := kept_below hb; obtain ⟨PX1, hPX1, HLX1⟩ := LB.fresh hg hbox; have HX1 := Aside0.mk HLX1; clear HLX1; have GEX1 := Aside0.mk (show w.heap.size ≤ gX1 from (by rw [hg]; exact HB.out.size)); have D_0_X1 := Aside0.mk (new_apart H0.out.lt hPX1); have D_1_X1 := Aside0.mk (new_apart H1.out.lt hPX1); have RRX1 := Aside0.mk (show ∀ k_, PX1 k_ → (fun k_ => P0 k_ ∨ P1 k_) k_ ∨ w.heap.size ≤ k_ from fun k_ h_ => .inr (Nat.le_trans HB.out.size (hPX1 k_ h_).1)); replace H0 := Aside0.mk (H0.out.step hk no_S); replace H1 := Aside0.mk (H1.out.step hk no_S); replace HB := Aside0.mk (below_step HB.out hb); clear hb hk hbox hg hPX1; (try clear hxX1_0 hfX1_0 hxX1_1 hfX1_1); have hxX1_0 := (HX1.out.cell 0).trans (show _ = some (.slice B0 l0.length D0) from rfl); have hfX1_0 := HX1.out.frozen 0; have hxX1_1 := (HX1.out.cell 1).trans (show _ = some (.slice B1 l1.length D1) from rfl); have hfX1_1 := HX1.out.frozen 1) | ((with_reducible refine gate_dst (N := 3) rfl ?_); refine box_event ?hg_2 (N := 3) ?hd_2 (cs := #[.int .i64 a0, .int .i64 a1, .int .i64 a2, .slice A3 l3.length c3]) (t := 100) ?hr_2 ?_; (case hd_2 => rfl); (case hg_2 => rfl); (case hr_2 => first | (go_simp; done) | (go_simp; rfl)); intro gX2 hg w2 hbox hb; have hk := kept_below hb; obtain ⟨PX2, hPX2, HLX2⟩ := LB.fresh hg hbox; have HX2 := Aside0.mk HLX2; clear HLX2; have GEX2 := Aside0.mk (show w.heap.size ≤ gX2 from (by rw [hg]; exact HB.out.size)); have D_0_X2 := Aside0.mk (new_apart H0.out.lt hPX2); have D_1_X2 := Aside0.mk (new_apart H1.out.lt hPX2); have D_X1_X2 := Aside0.mk (new_apart HX1.out.lt hPX2); have RRX2 := Aside0.mk (show ∀ k_, PX2 k_ → (fun k_ => P0 k_ ∨ P1 k_) k_ ∨ w.heap.size ≤ k_ from fun k_ h_ => .inr (Nat.le_trans HB.out.size (hPX2 k_ h_).1)); replace H0 := Aside0.mk (H0.out.step hk no_S); replace H1 := Aside0.mk (H1.out.step hk no_S); replace HX1 := Aside0.mk (HX1.out.step hk no_S); replace HB := Aside0.mk (below_step HB.out hb); clear hb hk hbox hg hPX2; (try clear hxX1_0 hfX1_0 hxX1_1 hfX1_1); have hxX1_0 := (HX1.out.cell 0).trans (show _ = some (.slice B0 l0.length D0) from rfl); have hfX1_0 := HX1.out.frozen 0; have hxX1_1 := (HX1.out.cell 1).trans (show _ = some (.slice B1 l1.length D1) from rfl); have hfX1_1 := HX1.out.frozen 1; (try clear hxX2_0 hfX2_0 hxX2_1 hfX2_1 hxX2_2 hfX2_2 hxX2_3 hfX2_3); have hxX2_0 := (HX2.out.cell 0).trans (show _ = some (.int .i64 a0) from rfl); have hfX2_0 := HX2.out.frozen 0; have hxX2_1 := (HX2.out.cell 1).trans (show _ = some (.int .i64 a1) from rfl); have hfX2_1 := HX2.out.frozen 1; have hxX2_2 := (HX2.out.cell 2).trans (show _ = some (.int .i64 a2) from rfl); have hfX2_2 := HX2.out.frozen 2; have hxX2_3 := (HX2.out.cell 3).trans (show _ = some (.slice A3 l3.length c3) from rfl); have hfX2_3 := HX2.out.frozen 3) | ((with_reducible refine gate_dst (N := 4) rfl ?_); refine box_event ?hg_3 (N := 4) ?hd_3 (cs := #[.slice none 0 0, .slice none 0 0]) (t := 29) ?hr_3 ?_; (case hd_3 => rfl); (case hg_3 => rfl); (case hr_3 => first | (go_simp; done) | (go_simp; rfl)); intro gX3 hg w2 hbox hb; have hk := kept_below hb; obtain ⟨PX3, hPX3, HLX3⟩ := LB.fresh hg hbox; have HX3 := Aside0.mk HLX3; clear HLX3; have GEX3 := Aside0.mk (show w.heap.size ≤ gX3 from (by rw [hg]; exact HB.out.size)); have D_0_X3 := Aside0.mk (new_apart H0.out.lt hPX3); have D_1_X3 := Aside0.mk (new_apart H1.out.lt hPX3); have D_X1_X3 := Aside0.mk (new_apart HX1.out.lt hPX3); have D_X2_X3 := Aside0.mk (new_apart HX2.out.lt hPX3); have RRX3 := Aside0.mk (show ∀ k_, PX3 k_ → (fun k_ => P0 k_ ∨ P1 k_) k_ ∨ w.heap.size ≤ k_ from fun k_ h_ => .inr (Nat.le_trans HB.out.size (hPX3 k_ h_).1)); replace H0 := Aside0.mk (H0.out.step hk no_S); replace H1 := Aside0.mk (H1.out.step hk no_S); replace HX1 := Aside0.mk (HX1.out.step hk no_S); replace HX2 := Aside0.mk (HX2.out.step hk no_S); replace HB := Aside0.mk (below_step HB.out hb); clear hb hk hbox hg hPX3; (try clear hxX1_0 hfX1_0 hxX1_1 hfX1_1); have hxX1_0 := (HX1.out.cell 0).trans (show _ = some (.slice B0 l0.length D0) from rfl); have hfX1_0 := HX1.out.frozen 0; have hxX1_1 := (HX1.out.cell 1).trans (show _ = some (.slice B1 l1.length D1) from rfl); have hfX1_1 := HX1.out.frozen 1; (try clear hxX2_0 hfX2_0 hxX2_1 hfX2_1 hxX2_2 hfX2_2 hxX2_3 hfX2_3); have hxX2_0 := (HX2.out.cell 0).trans (show _ = some (.int .i64 a0) from rfl); have hfX2_0 := HX2.out.frozen 0; have hxX2_1 := (HX2.out.cell 1).trans (show _ = some (.int .i64 a1) from rfl); have hfX2_1 := HX2.out.frozen 1; have hxX2_2 := (HX2.out.cell 2).trans (show _ = some (.int .i64 a2) from rfl); have hfX2_2 := HX2.out.frozen 2; have hxX2_3 := (HX2.out.cell 3).trans (show _ = some (.slice A3 l3.length c3) from rfl); have hfX2_3 := HX2.out.frozen 3; (try clear hxX3_0 hfX3_0 hxX3_1 hfX3_1); have hxX3_0 := (HX3.out.cell 0).trans (show _ = some (.slice none 0 0) from rfl); have hfX3_0 := HX3.out.frozen 0; have hxX3_1 := (HX3.out.cell 1).trans (show _ = some (.slice none 0 0) from rfl); have hfX3_1 := HX3.out.frozen 1))
      refine start_ (n := 7) (S := fun w' => w'.cell? ⟨gX1, 0, none⟩ = some (.slice B0 l0.length D0) ∧ w'.cell? ⟨gX1, 1, none⟩ = some (.slice B1 l1.length D1) ∧ w'.cell? ⟨gX2, 3, none⟩ = some (.slice A3 l3.length c3)) (ds := []) #[false, false, false, false, false, false, false] (by kernel_rfl) rfl rfl ⟨hxX1_0, hxX1_1, hxX2_3⟩ (fun hHeld => ?_)
      refine with_tabW spec_l02Act.tab3 spec_l02Act.bits3 (fun HT_ HW_ => ?_)
      generalize hwd_ : World.drew w2 = wd_ at hHeld ⊢
      have hk := kept_drew hwd_
      replace H0 := Aside0.mk (H0.out.step hk no_S)
      replace H1 := Aside0.mk (H1.out.step hk no_S)
      replace HX1 := Aside0.mk (HX1.out.step hk no_S)
      replace HX2 := Aside0.mk (HX2.out.step hk no_S)
      replace HX3 := Aside0.mk (HX3.out.step hk no_S)
      replace HB := Aside0.mk (below_drewd HB.out hwd_)
      clear hk hwd_
      (try clear hxX1_0 hfX1_0 hxX1_1 hfX1_1)
      have hxX1_0 := (HX1.out.cell 0).trans (show _ = some (.slice B0 l0.length D0) from rfl)
      have hfX1_0 := HX1.out.frozen 0
      have hxX1_1 := (HX1.out.cell 1).trans (show _ = some (.slice B1 l1.length D1) from rfl)
      have hfX1_1 := HX1.out.frozen 1
      (try clear hxX2_0 hfX2_0 hxX2_1 hfX2_1 hxX2_2 hfX2_2 hxX2_3 hfX2_3)
      have hxX2_0 := (HX2.out.cell 0).trans (show _ = some (.int .i64 a0) from rfl)
      have hfX2_0 := HX2.out.frozen 0
      have hxX2_1 := (HX2.out.cell 1).trans (show _ = some (.int .i64 a1) from rfl)
      have hfX2_1 := HX2.out.frozen 1
      have hxX2_2 := (HX2.out.cell 2).trans (show _ = some (.int .i64 a2) from rfl)
      have hfX2_2 := HX2.out.frozen 2
      have hxX2_3 := (HX2.out.cell 3).trans (show _ = some (.slice A3 l3.length c3) from rfl)
      have hfX2_3 := HX2.out.frozen 3
      (try clear hxX3_0 hfX3_0 hxX3_1 hfX3_1)
      have hxX3_0 := (HX3.out.cell 0).trans (show _ = some (.slice none 0 0) from rfl)
      have hfX3_0 := HX3.out.frozen 0
      have hxX3_1 := (HX3.out.cell 1).trans (show _ = some (.slice none 0 0) from rfl)
      have hfX3_1 := HX3.out.frozen 1
      refine pure_ (i := 0) (N := some 11) (v := ?_) (a' := ?_) #[true, false, false, false, false, false, false] rfl rfl (any_of HT_.out (by kernel_rfl)) (fun _ _ _ h => h) (Or.inl ⟨by rfl, ?_⟩) ?_ ?_
      rotate_left
      · intro w'
        go_simp
        with_reducible rfl
      rotate_left
      · simp only [Act.put, List.setIfInBounds_toArray, List.set_cons_zero, List.set_cons_succ, i64_w, i32_w]
        rfl
      refine take_ (i := 1) (N := some 12) (v := ?_) (a' := ?_) #[true, true, false, false, false, false, false] rfl rfl (take_ofW HT_.out HW_.out (by kernel_rfl)) (fun _ _ _ h => h) (Or.inl ⟨by rfl, ?_⟩) hHeld ?_ ?_
      rotate_left
      · rintro w' ⟨s0, s1, s2⟩
        go_simp
        with_reducible rfl
      rotate_left
      · simp only [Act.put, List.setIfInBounds_toArray, List.set_cons_zero, List.set_cons_succ, i64_w, i32_w]
        rfl
      refine pure_ (i := 2) (N := some 13) (v := ?_) (a' := ?_) #[true, true, true, false, false, false, false] rfl rfl (any_of HT_.out (by kernel_rfl)) (fun _ _ _ h => h) (Or.inl ⟨by rfl, ?_⟩) ?_ ?_
      rotate_left
      · intro w'
        go_simp
        with_reducible rfl
      rotate_left
      · simp only [Act.put, List.setIfInBounds_toArray, List.set_cons_zero, List.set_cons_succ, i64_w, i32_w]
        rfl
      refine take_ (i := 3) (N := some 14) (v := ?_) (a' := ?_) #[true, true, true, true, false, false, false] rfl rfl (take_ofW HT_.out HW_.out (by kernel_rfl)) (fun _ _ _ h => h) (Or.inl ⟨by rfl, ?_⟩) hHeld ?_ ?_
      rotate_left
      · rintro w' ⟨s0, s1, s2⟩
        go_simp
        with_reducible rfl
      rotate_left
      · simp only [Act.put, List.setIfInBounds_toArray, List.set_cons_zero, List.set_cons_succ, i64_w, i32_w]
        rfl
      refine one_ (i := 4) (N := some 15) #[true, true, true, true, true, false, false] rfl rfl (one_of HT_.out (by kernel_rfl)) (by decide) (fun K hK => ?_)
      refine goes_ Try.func95 (by kernel_rfl) rfl #[.agg #[.slice B0 l0.length D0, .slice B1 l1.length D1]] (by rfl) rfl rfl (by (try simp only [List.map_toArray, List.map_cons, List.map_nil]); first | done | rfl | (simp only [List.length_drop, List.length_take]; rfl)) ?_
      (with_reducible refine (spec_l02Size.calls k _ _ l0 _ _ l1 t1 _ H0.out.reads H0.out.room H1.out.reads H1.out.room E1.out).mono ?_)
      rintro e w2 ⟨rfl, hb⟩
      refine ⟨_, rfl, ?_⟩
      have hk := kept_below hb
      replace H0 := Aside0.mk (H0.out.step hk no_S)
      replace H1 := Aside0.mk (H1.out.step hk no_S)
      replace HX1 := Aside0.mk (HX1.out.step hk no_S)
      replace HX2 := Aside0.mk (HX2.out.step hk no_S)
      replace HX3 := Aside0.mk (HX3.out.step hk no_S)
      replace HB := Aside0.mk (below_step HB.out hb)
      clear hb hk
      (try clear hxX1_0 hfX1_0 hxX1_1 hfX1_1)
      have hxX1_0 := (HX1.out.cell 0).trans (show _ = some (.slice B0 l0.length D0) from rfl)
      have hfX1_0 := HX1.out.frozen 0
      have hxX1_1 := (HX1.out.cell 1).trans (show _ = some (.slice B1 l1.length D1) from rfl)
      have hfX1_1 := HX1.out.frozen 1
      (try clear hxX2_0 hfX2_0 hxX2_1 hfX2_1 hxX2_2 hfX2_2 hxX2_3 hfX2_3)
      have hxX2_0 := (HX2.out.cell 0).trans (show _ = some (.int .i64 a0) from rfl)
      have hfX2_0 := HX2.out.frozen 0
      have hxX2_1 := (HX2.out.cell 1).trans (show _ = some (.int .i64 a1) from rfl)
      have hfX2_1 := HX2.out.frozen 1
      have hxX2_2 := (HX2.out.cell 2).trans (show _ = some (.int .i64 a2) from rfl)
      have hfX2_2 := HX2.out.frozen 2
      have hxX2_3 := (HX2.out.cell 3).trans (show _ = some (.slice A3 l3.length c3) from rfl)
      have hfX2_3 := HX2.out.frozen 3
      (try clear hxX3_0 hfX3_0 hxX3_1 hfX3_1)
      have hxX3_0 := (HX3.out.cell 0).trans (show _ = some (.slice none 0 0) from rfl)
      have hfX3_0 := HX3.out.frozen 0
      have hxX3_1 := (HX3.out.cell 1).trans (show _ = some (.slice none 0 0) from rfl)
      have hfX3_1 := HX3.out.frozen 1
      refine hK.out _ _ ⟨hxX1_0, hxX1_1, hxX2_3⟩ (fun hHeld => ?_)
      clear hK K
      refine norm_ (a' := ?_) ?_ ?_
      rotate_left
      · show Act.put _ (some 15) _ = _
        simp only [Act.put, List.setIfInBounds_toArray, List.set_cons_zero, List.set_cons_succ, i64_w, i32_w]
        rfl
      refine pure_ (i := 5) (N := some 16) (v := ?_) (a' := ?_) #[true, true, true, true, true, true, false] rfl rfl (any_of HT_.out (by kernel_rfl)) (fun _ _ _ h => h) (Or.inl ⟨by rfl, ?_⟩) ?_ ?_
      rotate_left
      · intro w'
        go_simp
        with_reducible rfl
      rotate_left
      · simp only [Act.put, List.setIfInBounds_toArray, List.set_cons_zero, List.set_cons_succ, i64_w, i32_w]
        rfl
      refine pure_ (i := 6) (N := some 17) (v := ?_) (a' := ?_) #[true, true, true, true, true, true, true] rfl rfl (any_of HT_.out (by kernel_rfl)) (fun _ _ _ h => h) (Or.inl ⟨by rfl, ?_⟩) ?_ ?_
      rotate_left
      · intro w'
        go_simp
        with_reducible rfl
      rotate_left
      · simp only [Act.put, List.setIfInBounds_toArray, List.set_cons_zero, List.set_cons_succ, i64_w, i32_w]
        rfl
      refine done_ (done_of HT_.out (by kernel_rfl)) ?_
      go_wp2_with (first | ((with_reducible refine gate_store (t := 29) (p := 4) rfl ?_); refine LB.stored HX3.out HB.out GEX3.out 0 [.slice B0 l0.length D0, .slice B1 l1.length D1] rfl (t := 29) (p := 4) rfl rfl ?hr_4 ?_; (case hr_4 => first | (go_simp; done) | (go_simp; rfl)); intro w2 hx hk hb; replace H0 := Aside0.mk (H0.out.step hk D_0_X3.out); replace H1 := Aside0.mk (H1.out.step hk D_1_X3.out); replace HX1 := Aside0.mk (HX1.out.step hk D_X1_X3.out); replace HX2 := Aside0.mk (HX2.out.step hk D_X2_X3.out); replace HB := Aside0.mk hb; replace HX3 := Aside0.mk (show LB w2 PX3 gX3 29 #[.slice B0 l0.length D0, .slice B1 l1.length D1] from hx); clear hk hx hb; (try clear hxX1_0 hfX1_0 hxX1_1 hfX1_1); have hxX1_0 := (HX1.out.cell 0).trans (show _ = some (.slice B0 l0.length D0) from rfl); have hfX1_0 := HX1.out.frozen 0; have hxX1_1 := (HX1.out.cell 1).trans (show _ = some (.slice B1 l1.length D1) from rfl); have hfX1_1 := HX1.out.frozen 1; (try clear hxX2_0 hfX2_0 hxX2_1 hfX2_1 hxX2_2 hfX2_2 hxX2_3 hfX2_3); have hxX2_0 := (HX2.out.cell 0).trans (show _ = some (.int .i64 a0) from rfl); have hfX2_0 := HX2.out.frozen 0; have hxX2_1 := (HX2.out.cell 1).trans (show _ = some (.int .i64 a1) from rfl); have hfX2_1 := HX2.out.frozen 1; have hxX2_2 := (HX2.out.cell 2).trans (show _ = some (.int .i64 a2) from rfl); have hfX2_2 := HX2.out.frozen 2; have hxX2_3 := (HX2.out.cell 3).trans (show _ = some (.slice A3 l3.length c3) from rfl); have hfX2_3 := HX2.out.frozen 3; (try clear hxX3_0 hfX3_0 hxX3_1 hfX3_1); have hxX3_0 := (HX3.out.cell 0).trans (show _ = some (.slice B0 l0.length D0) from rfl); have hfX3_0 := HX3.out.frozen 0; have hxX3_1 := (HX3.out.cell 1).trans (show _ = some (.slice B1 l1.length D1) from rfl); have hfX3_1 := HX3.out.frozen 1))
      refine bodyPost_ret (results_ct rfl _ _ gX3 29 #[.slice B0 l0.length D0, .slice B1 l1.length D1] (0, 0) _ rfl HX3.out.2.1 Try.underlying29 rfl (by kernel_rfl)) rfl ?_
      exact ⟨_, _, _, _, rfl, H0.out, H1.out, fun _ hk => .inl (.inl hk), fun _ hk => .inl (.inr hk), D_0_1.out, HB.out⟩
    · rw [if_neg c1] at h
      have cb1 : decide (wrap64 (8192 - t1) < (l3.length : Int)) = false := decide_eq_false c1
      clear c1
      simp only [Option.bind_some] at h
      obtain ⟨ya, hya⟩ : ∃ y_ : List (List Int), y_ = [] := ⟨_, rfl⟩
      obtain ⟨yb, hyb⟩ : ∃ y_ : List Int, y_ = [] := ⟨_, rfl⟩
      rw [← hya, ← hyb] at h
      by_cases c2 : ya.length + l1.length < 5864062014805
      · rw [if_pos c2] at h
        obtain ⟨y1, hy1⟩ : ∃ y_ : List (List Int), y_ = ya ++ l1 := ⟨_, rfl⟩
        rw [← hy1] at h
        by_cases c3 : yb.length + l3.length < 140737488355328
        · rw [if_pos c3] at h
          by_cases c4 : y1.length < 5864062014805
          · rw [if_pos c4] at h
            obtain ⟨y2, hy2⟩ : ∃ y_ : List Int, y_ = yb ++ l3 := ⟨_, rfl⟩
            rw [← hy2] at h
            obtain ⟨y3, hy3'⟩ : ∃ y_ : List (List Int), y_ = y1 ++ y2 :: ya := ⟨_, rfl⟩
            rw [← hy3'] at h
            have hy3 : y3 = y1 ++ [y2] := hy3'.trans (by rw [hya])
            clear hy3'
            have Nya := Aside0.mk hya
            have Nyb := Aside0.mk hyb
            have Ny1 := Aside0.mk hy1
            have Ny2 := Aside0.mk hy2
            have Ny3 := Aside0.mk hy3
            have LM2 := Aside0.mk c2
            have LM3 := Aside0.mk c3
            have LM4 := Aside0.mk c4
            clear hya hyb hy1 hy2 hy3 c2 c3 c4
            simp only [Option.some.injEq, Prod.mk.injEq] at h
            obtain ⟨rfl, rfl, rfl⟩ := h
            go_enter Try.func75, Try.ntmps75
            go_upto_region 3 with (first | ((with_reducible refine gate_dst (N := 2) rfl ?_); refine box_event ?hg_1 (N := 2) ?hd_1 (cs := #[.slice B0 l0.length D0, .slice B1 l1.length D1]) (t := 29) ?hr_1 ?_; (case hd_1 => rfl); (case hg_1 => rfl); (case hr_1 => first | (go_simp; done) | (go_simp; rfl)); intro gX1 hg w2 hbox hb; have hk := kept_below hb; obtain ⟨PX1, hPX1, HLX1⟩ := LB.fresh hg hbox; have HX1 := Aside0.mk HLX1; clear HLX1; have GEX1 := Aside0.mk (show w.heap.size ≤ gX1 from (by rw [hg]; exact HB.out.size)); have D_0_X1 := Aside0.mk (new_apart H0.out.lt hPX1); have D_1_X1 := Aside0.mk (new_apart H1.out.lt hPX1); have RRX1 := Aside0.mk (show ∀ k_, PX1 k_ → (fun k_ => P0 k_ ∨ P1 k_) k_ ∨ w.heap.size ≤ k_ from fun k_ h_ => .inr (Nat.le_trans HB.out.size (hPX1 k_ h_).1)); replace H0 := Aside0.mk (H0.out.step hk no_S); replace H1 := Aside0.mk (H1.out.step hk no_S); replace HB := Aside0.mk (below_step HB.out hb); clear hb hk hbox hg hPX1; (try clear hxX1_0 hfX1_0 hxX1_1 hfX1_1); have hxX1_0 := (HX1.out.cell 0).trans (show _ = some (.slice B0 l0.length D0) from rfl); have hfX1_0 := HX1.out.frozen 0; have hxX1_1 := (HX1.out.cell 1).trans (show _ = some (.slice B1 l1.length D1) from rfl); have hfX1_1 := HX1.out.frozen 1) | ((with_reducible refine gate_dst (N := 3) rfl ?_); refine box_event ?hg_2 (N := 3) ?hd_2 (cs := #[.int .i64 a0, .int .i64 a1, .int .i64 a2, .slice A3 l3.length c3]) (t := 100) ?hr_2 ?_; (case hd_2 => rfl); (case hg_2 => rfl); (case hr_2 => first | (go_simp; done) | (go_simp; rfl)); intro gX2 hg w2 hbox hb; have hk := kept_below hb; obtain ⟨PX2, hPX2, HLX2⟩ := LB.fresh hg hbox; have HX2 := Aside0.mk HLX2; clear HLX2; have GEX2 := Aside0.mk (show w.heap.size ≤ gX2 from (by rw [hg]; exact HB.out.size)); have D_0_X2 := Aside0.mk (new_apart H0.out.lt hPX2); have D_1_X2 := Aside0.mk (new_apart H1.out.lt hPX2); have D_X1_X2 := Aside0.mk (new_apart HX1.out.lt hPX2); have RRX2 := Aside0.mk (show ∀ k_, PX2 k_ → (fun k_ => P0 k_ ∨ P1 k_) k_ ∨ w.heap.size ≤ k_ from fun k_ h_ => .inr (Nat.le_trans HB.out.size (hPX2 k_ h_).1)); replace H0 := Aside0.mk (H0.out.step hk no_S); replace H1 := Aside0.mk (H1.out.step hk no_S); replace HX1 := Aside0.mk (HX1.out.step hk no_S); replace HB := Aside0.mk (below_step HB.out hb); clear hb hk hbox hg hPX2; (try clear hxX1_0 hfX1_0 hxX1_1 hfX1_1); have hxX1_0 := (HX1.out.cell 0).trans (show _ = some (.slice B0 l0.length D0) from rfl); have hfX1_0 := HX1.out.frozen 0; have hxX1_1 := (HX1.out.cell 1).trans (show _ = some (.slice B1 l1.length D1) from rfl); have hfX1_1 := HX1.out.frozen 1; (try clear hxX2_0 hfX2_0 hxX2_1 hfX2_1 hxX2_2 hfX2_2 hxX2_3 hfX2_3); have hxX2_0 := (HX2.out.cell 0).trans (show _ = some (.int .i64 a0) from rfl); have hfX2_0 := HX2.out.frozen 0; have hxX2_1 := (HX2.out.cell 1).trans (show _ = some (.int .i64 a1) from rfl); have hfX2_1 := HX2.out.frozen 1; have hxX2_2 := (HX2.out.cell 2).trans (show _ = some (.int .i64 a2) from rfl); have hfX2_2 := HX2.out.frozen 2; have hxX2_3 := (HX2.out.cell 3).trans (show _ = some (.slice A3 l3.length c3) from rfl); have hfX2_3 := HX2.out.frozen 3) | ((with_reducible refine gate_dst (N := 4) rfl ?_); refine box_event ?hg_3 (N := 4) ?hd_3 (cs := #[.slice none 0 0, .slice none 0 0]) (t := 29) ?hr_3 ?_; (case hd_3 => rfl); (case hg_3 => rfl); (case hr_3 => first | (go_simp; done) | (go_simp; rfl)); intro gX3 hg w2 hbox hb; have hk := kept_below hb; obtain ⟨PX3, hPX3, HLX3⟩ := LB.fresh hg hbox; have HX3 := Aside0.mk HLX3; clear HLX3; have GEX3 := Aside0.mk (show w.heap.size ≤ gX3 from (by rw [hg]; exact HB.out.size)); have D_0_X3 := Aside0.mk (new_apart H0.out.lt hPX3); have D_1_X3 := Aside0.mk (new_apart H1.out.lt hPX3); have D_X1_X3 := Aside0.mk (new_apart HX1.out.lt hPX3); have D_X2_X3 := Aside0.mk (new_apart HX2.out.lt hPX3); have RRX3 := Aside0.mk (show ∀ k_, PX3 k_ → (fun k_ => P0 k_ ∨ P1 k_) k_ ∨ w.heap.size ≤ k_ from fun k_ h_ => .inr (Nat.le_trans HB.out.size (hPX3 k_ h_).1)); replace H0 := Aside0.mk (H0.out.step hk no_S); replace H1 := Aside0.mk (H1.out.step hk no_S); replace HX1 := Aside0.mk (HX1.out.step hk no_S); replace HX2 := Aside0.mk (HX2.out.step hk no_S); replace HB := Aside0.mk (below_step HB.out hb); clear hb hk hbox hg hPX3; (try clear hxX1_0 hfX1_0 hxX1_1 hfX1_1); have hxX1_0 := (HX1.out.cell 0).trans (show _ = some (.slice B0 l0.length D0) from rfl); have hfX1_0 := HX1.out.frozen 0; have hxX1_1 := (HX1.out.cell 1).trans (show _ = some (.slice B1 l1.length D1) from rfl); have hfX1_1 := HX1.out.frozen 1; (try clear hxX2_0 hfX2_0 hxX2_1 hfX2_1 hxX2_2 hfX2_2 hxX2_3 hfX2_3); have hxX2_0 := (HX2.out.cell 0).trans (show _ = some (.int .i64 a0) from rfl); have hfX2_0 := HX2.out.frozen 0; have hxX2_1 := (HX2.out.cell 1).trans (show _ = some (.int .i64 a1) from rfl); have hfX2_1 := HX2.out.frozen 1; have hxX2_2 := (HX2.out.cell 2).trans (show _ = some (.int .i64 a2) from rfl); have hfX2_2 := HX2.out.frozen 2; have hxX2_3 := (HX2.out.cell 3).trans (show _ = some (.slice A3 l3.length c3) from rfl); have hfX2_3 := HX2.out.frozen 3; (try clear hxX3_0 hfX3_0 hxX3_1 hfX3_1); have hxX3_0 := (HX3.out.cell 0).trans (show _ = some (.slice none 0 0) from rfl); have hfX3_0 := HX3.out.frozen 0; have hxX3_1 := (HX3.out.cell 1).trans (show _ = some (.slice none 0 0) from rfl); have hfX3_1 := HX3.out.frozen 1))
            refine start_ (n := 7) (S := fun w' => w'.cell? ⟨gX1, 0, none⟩ = some (.slice B0 l0.length D0) ∧ w'.cell? ⟨gX1, 1, none⟩ = some (.slice B1 l1.length D1) ∧ w'.cell? ⟨gX2, 3, none⟩ = some (.slice A3 l3.length c3)) (ds := []) #[false, false, false, false, false, false, false] (by kernel_rfl) rfl rfl ⟨hxX1_0, hxX1_1, hxX2_3⟩ (fun hHeld => ?_)
            refine with_tabW spec_l02Act.tab3 spec_l02Act.bits3 (fun HT_ HW_ => ?_)
            generalize hwd_ : World.drew w2 = wd_ at hHeld ⊢
            have hk := kept_drew hwd_
            replace H0 := Aside0.mk (H0.out.step hk no_S)
            replace H1 := Aside0.mk (H1.out.step hk no_S)
            replace HX1 := Aside0.mk (HX1.out.step hk no_S)
            replace HX2 := Aside0.mk (HX2.out.step hk no_S)
            replace HX3 := Aside0.mk (HX3.out.step hk no_S)
            replace HB := Aside0.mk (below_drewd HB.out hwd_)
            clear hk hwd_
            (try clear hxX1_0 hfX1_0 hxX1_1 hfX1_1)
            have hxX1_0 := (HX1.out.cell 0).trans (show _ = some (.slice B0 l0.length D0) from rfl)
            have hfX1_0 := HX1.out.frozen 0
            have hxX1_1 := (HX1.out.cell 1).trans (show _ = some (.slice B1 l1.length D1) from rfl)
            have hfX1_1 := HX1.out.frozen 1
            (try clear hxX2_0 hfX2_0 hxX2_1 hfX2_1 hxX2_2 hfX2_2 hxX2_3 hfX2_3)
            have hxX2_0 := (HX2.out.cell 0).trans (show _ = some (.int .i64 a0) from rfl)
            have hfX2_0 := HX2.out.frozen 0
            have hxX2_1 := (HX2.out.cell 1).trans (show _ = some (.int .i64 a1) from rfl)
            have hfX2_1 := HX2.out.frozen 1
            have hxX2_2 := (HX2.out.cell 2).trans (show _ = some (.int .i64 a2) from rfl)
            have hfX2_2 := HX2.out.frozen 2
            have hxX2_3 := (HX2.out.cell 3).trans (show _ = some (.slice A3 l3.length c3) from rfl)
            have hfX2_3 := HX2.out.frozen 3
            (try clear hxX3_0 hfX3_0 hxX3_1 hfX3_1)
            have hxX3_0 := (HX3.out.cell 0).trans (show _ = some (.slice none 0 0) from rfl)
            have hfX3_0 := HX3.out.frozen 0
            have hxX3_1 := (HX3.out.cell 1).trans (show _ = some (.slice none 0 0) from rfl)
            have hfX3_1 := HX3.out.frozen 1
            refine pure_ (i := 0) (N := some 11) (v := ?_) (a' := ?_) #[true, false, false, false, false, false, false] rfl rfl (any_of HT_.out (by kernel_rfl)) (fun _ _ _ h => h) (Or.inl ⟨by rfl, ?_⟩) ?_ ?_
            rotate_left
            · intro w'
              go_simp
              with_reducible rfl
            rotate_left
            · simp only [Act.put, List.setIfInBounds_toArray, List.set_cons_zero, List.set_cons_succ, i64_w, i32_w]
              rfl
            refine take_ (i := 1) (N := some 12) (v := ?_) (a' := ?_) #[true, true, false, false, false, false, false] rfl rfl (take_ofW HT_.out HW_.out (by kernel_rfl)) (fun _ _ _ h => h) (Or.inl ⟨by rfl, ?_⟩) hHeld ?_ ?_
            rotate_left
            · rintro w' ⟨s0, s1, s2⟩
              go_simp
              with_reducible rfl
            rotate_left
            · simp only [Act.put, List.setIfInBounds_toArray, List.set_cons_zero, List.set_cons_succ, i64_w, i32_w]
              rfl
            refine pure_ (i := 2) (N := some 13) (v := ?_) (a' := ?_) #[true, true, true, false, false, false, false] rfl rfl (any_of HT_.out (by kernel_rfl)) (fun _ _ _ h => h) (Or.inl ⟨by rfl, ?_⟩) ?_ ?_
            rotate_left
            · intro w'
              go_simp
              with_reducible rfl
            rotate_left
            · simp only [Act.put, List.setIfInBounds_toArray, List.set_cons_zero, List.set_cons_succ, i64_w, i32_w]
              rfl
            refine take_ (i := 3) (N := some 14) (v := ?_) (a' := ?_) #[true, true, true, true, false, false, false] rfl rfl (take_ofW HT_.out HW_.out (by kernel_rfl)) (fun _ _ _ h => h) (Or.inl ⟨by rfl, ?_⟩) hHeld ?_ ?_
            rotate_left
            · rintro w' ⟨s0, s1, s2⟩
              go_simp
              with_reducible rfl
            rotate_left
            · simp only [Act.put, List.setIfInBounds_toArray, List.set_cons_zero, List.set_cons_succ, i64_w, i32_w]
              rfl
            refine one_ (i := 4) (N := some 15) #[true, true, true, true, true, false, false] rfl rfl (one_of HT_.out (by kernel_rfl)) (by decide) (fun K hK => ?_)
            refine goes_ Try.func95 (by kernel_rfl) rfl #[.agg #[.slice B0 l0.length D0, .slice B1 l1.length D1]] (by rfl) rfl rfl (by (try simp only [List.map_toArray, List.map_cons, List.map_nil]); first | done | rfl | (simp only [List.length_drop, List.length_take]; rfl)) ?_
            (with_reducible refine (spec_l02Size.calls k _ _ l0 _ _ l1 t1 _ H0.out.reads H0.out.room H1.out.reads H1.out.room E1.out).mono ?_)
            rintro e w2 ⟨rfl, hb⟩
            refine ⟨_, rfl, ?_⟩
            have hk := kept_below hb
            replace H0 := Aside0.mk (H0.out.step hk no_S)
            replace H1 := Aside0.mk (H1.out.step hk no_S)
            replace HX1 := Aside0.mk (HX1.out.step hk no_S)
            replace HX2 := Aside0.mk (HX2.out.step hk no_S)
            replace HX3 := Aside0.mk (HX3.out.step hk no_S)
            replace HB := Aside0.mk (below_step HB.out hb)
            clear hb hk
            (try clear hxX1_0 hfX1_0 hxX1_1 hfX1_1)
            have hxX1_0 := (HX1.out.cell 0).trans (show _ = some (.slice B0 l0.length D0) from rfl)
            have hfX1_0 := HX1.out.frozen 0
            have hxX1_1 := (HX1.out.cell 1).trans (show _ = some (.slice B1 l1.length D1) from rfl)
            have hfX1_1 := HX1.out.frozen 1
            (try clear hxX2_0 hfX2_0 hxX2_1 hfX2_1 hxX2_2 hfX2_2 hxX2_3 hfX2_3)
            have hxX2_0 := (HX2.out.cell 0).trans (show _ = some (.int .i64 a0) from rfl)
            have hfX2_0 := HX2.out.frozen 0
            have hxX2_1 := (HX2.out.cell 1).trans (show _ = some (.int .i64 a1) from rfl)
            have hfX2_1 := HX2.out.frozen 1
            have hxX2_2 := (HX2.out.cell 2).trans (show _ = some (.int .i64 a2) from rfl)
            have hfX2_2 := HX2.out.frozen 2
            have hxX2_3 := (HX2.out.cell 3).trans (show _ = some (.slice A3 l3.length c3) from rfl)
            have hfX2_3 := HX2.out.frozen 3
            (try clear hxX3_0 hfX3_0 hxX3_1 hfX3_1)
            have hxX3_0 := (HX3.out.cell 0).trans (show _ = some (.slice none 0 0) from rfl)
            have hfX3_0 := HX3.out.frozen 0
            have hxX3_1 := (HX3.out.cell 1).trans (show _ = some (.slice none 0 0) from rfl)
            have hfX3_1 := HX3.out.frozen 1
            refine hK.out _ _ ⟨hxX1_0, hxX1_1, hxX2_3⟩ (fun hHeld => ?_)
            clear hK K
            refine norm_ (a' := ?_) ?_ ?_
            rotate_left
            · show Act.put _ (some 15) _ = _
              simp only [Act.put, List.setIfInBounds_toArray, List.set_cons_zero, List.set_cons_succ, i64_w, i32_w]
              rfl
            refine pure_ (i := 5) (N := some 16) (v := ?_) (a' := ?_) #[true, true, true, true, true, true, false] rfl rfl (any_of HT_.out (by kernel_rfl)) (fun _ _ _ h => h) (Or.inl ⟨by rfl, ?_⟩) ?_ ?_
            rotate_left
            · intro w'
              go_simp
              with_reducible rfl
            rotate_left
            · simp only [Act.put, List.setIfInBounds_toArray, List.set_cons_zero, List.set_cons_succ, i64_w, i32_w]
              rfl
            refine pure_ (i := 6) (N := some 17) (v := ?_) (a' := ?_) #[true, true, true, true, true, true, true] rfl rfl (any_of HT_.out (by kernel_rfl)) (fun _ _ _ h => h) (Or.inl ⟨by rfl, ?_⟩) ?_ ?_
            rotate_left
            · intro w'
              go_simp
              with_reducible rfl
            rotate_left
            · simp only [Act.put, List.setIfInBounds_toArray, List.set_cons_zero, List.set_cons_succ, i64_w, i32_w]
              rfl
            refine done_ (done_of HT_.out (by kernel_rfl)) ?_
            go_upto_region 5 with (fail)
            refine start_ (n := 12) (S := fun w' => w'.cell? ⟨gX1, 1, none⟩ = some (.slice B1 l1.length D1) ∧ w'.cell? ⟨gX2, 3, none⟩ = some (.slice A3 l3.length c3)) (ds := [11]) #[false, false, false, false, false, false, false, false, false, false, false, false] (by kernel_rfl) rfl rfl ⟨hxX1_1, hxX2_3⟩ (fun hHeld => ?_)
            refine with_tabW spec_l02Act.tab5 spec_l02Act.bits5 (fun HT_ HW_ => ?_)
            generalize hwd_ : World.drew w2 = wd_ at hHeld ⊢
            have hk := kept_drew hwd_
            replace H0 := Aside0.mk (H0.out.step hk no_S)
            replace H1 := Aside0.mk (H1.out.step hk no_S)
            replace HX1 := Aside0.mk (HX1.out.step hk no_S)
            replace HX2 := Aside0.mk (HX2.out.step hk no_S)
            replace HX3 := Aside0.mk (HX3.out.step hk no_S)
            replace HB := Aside0.mk (below_drewd HB.out hwd_)
            clear hk hwd_
            (try clear hxX1_0 hfX1_0 hxX1_1 hfX1_1)
            have hxX1_0 := (HX1.out.cell 0).trans (show _ = some (.slice B0 l0.length D0) from rfl)
            have hfX1_0 := HX1.out.frozen 0
            have hxX1_1 := (HX1.out.cell 1).trans (show _ = some (.slice B1 l1.length D1) from rfl)
            have hfX1_1 := HX1.out.frozen 1
            (try clear hxX2_0 hfX2_0 hxX2_1 hfX2_1 hxX2_2 hfX2_2 hxX2_3 hfX2_3)
            have hxX2_0 := (HX2.out.cell 0).trans (show _ = some (.int .i64 a0) from rfl)
            have hfX2_0 := HX2.out.frozen 0
            have hxX2_1 := (HX2.out.cell 1).trans (show _ = some (.int .i64 a1) from rfl)
            have hfX2_1 := HX2.out.frozen 1
            have hxX2_2 := (HX2.out.cell 2).trans (show _ = some (.int .i64 a2) from rfl)
            have hfX2_2 := HX2.out.frozen 2
            have hxX2_3 := (HX2.out.cell 3).trans (show _ = some (.slice A3 l3.length c3) from rfl)
            have hfX2_3 := HX2.out.frozen 3
            (try clear hxX3_0 hfX3_0 hxX3_1 hfX3_1)
            have hxX3_0 := (HX3.out.cell 0).trans (show _ = some (.slice none 0 0) from rfl)
            have hfX3_0 := HX3.out.frozen 0
            have hxX3_1 := (HX3.out.cell 1).trans (show _ = some (.slice none 0 0) from rfl)
            have hfX3_1 := HX3.out.frozen 1
            refine pure_ (i := 1) (N := some 20) (v := ?_) (a' := ?_) #[false, true, false, false, false, false, false, false, false, false, false, false] rfl rfl (any_of HT_.out (by kernel_rfl)) (fun _ _ _ h => h) (Or.inl ⟨by rfl, ?_⟩) ?_ ?_
            rotate_left
            · intro w'
              go_simp
              with_reducible rfl
            rotate_left
            · simp only [Act.put, List.setIfInBounds_toArray, List.set_cons_zero, List.set_cons_succ, i64_w, i32_w]
              rfl
            refine pure_ (i := 5) (N := some 24) (v := ?_) (a' := ?_) #[false, true, false, false, false, true, false, false, false, false, false, false] rfl rfl (any_of HT_.out (by kernel_rfl)) (fun _ _ _ h => h) (Or.inl ⟨by rfl, ?_⟩) ?_ ?_
            rotate_left
            · intro w'
              go_simp
              with_reducible rfl
            rotate_left
            · simp only [Act.put, List.setIfInBounds_toArray, List.set_cons_zero, List.set_cons_succ, i64_w, i32_w]
              rfl
            refine take_ (i := 2) (N := some 21) (v := ?_) (a' := ?_) #[false, true, true, false, false, true, false, false, false, false, false, false] rfl rfl (take_ofW HT_.out HW_.out (by kernel_rfl)) (fun _ _ _ h => h) (Or.inl ⟨by rfl, ?_⟩) hHeld ?_ ?_
            rotate_left
            · rintro w' ⟨s0, s1⟩
              go_simp
              with_reducible rfl
            rotate_left
            · simp only [Act.put, List.setIfInBounds_toArray, List.set_cons_zero, List.set_cons_succ, i64_w, i32_w]
              rfl
            refine take_ (i := 6) (N := some 25) (v := ?_) (a' := ?_) #[false, true, true, false, false, true, true, false, false, false, false, false] rfl rfl (take_ofW HT_.out HW_.out (by kernel_rfl)) (fun _ _ _ h => h) (Or.inl ⟨by rfl, ?_⟩) hHeld ?_ ?_
            rotate_left
            · rintro w' ⟨s0, s1⟩
              go_simp
              with_reducible rfl
            rotate_left
            · simp only [Act.put, List.setIfInBounds_toArray, List.set_cons_zero, List.set_cons_succ, i64_w, i32_w]
              rfl
            refine two_ (i := 0) (j := 4) (Ni := some 19) (Nj := some 23) #[true, true, true, false, false, true, true, false, false, false, false, false] #[false, true, true, false, true, true, true, false, false, false, false, false] rfl rfl rfl rfl (two_of HT_.out (by kernel_rfl)) (by decide) (by decide) (fun K hK => ?_) (fun K hK => ?_)
            · refine Kd.S_lit_step (Kd.slice 5 (Kd.int .u8)) _ 22 ?hg_5 (N := 19) ?hd_5 (xs := ([] : List (List Int))) (inner := []) (ok := fun _ => True) (okp := fun _ => True) ?hr_5 ?hp_5 (fun _ hk => hk) trivial (Below.refl _ _) (Nat.le_refl _) (by simp) ?_
              (case hd_5 => rfl)
              (case hg_5 => exact (by rfl))
              (case hr_5 => first | (go_simp; done) | (go_simp; rfl))
              (case hp_5 => exact (Reps.none _ _))
              intro vF4 w2 hrF4 hb hg_ hnew_
              clear hg_ hnew_
              rw [← Nya.out] at hrF4
              have hk := kept_below hb
              obtain ⟨PF4, hPF4, HLF4⟩ := LS.fresh HB.out hrF4
              have HF4 := Aside0.mk HLF4
              clear HLF4 hrF4
              have D_0_F4 := Aside0.mk (new_apart H0.out.lt hPF4)
              have D_1_F4 := Aside0.mk (new_apart H1.out.lt hPF4)
              have D_X1_F4 := Aside0.mk (new_apart HX1.out.lt hPF4)
              have D_X2_F4 := Aside0.mk (new_apart HX2.out.lt hPF4)
              have D_X3_F4 := Aside0.mk (new_apart HX3.out.lt hPF4)
              have RRF4 := Aside0.mk (show ∀ k_, PF4 k_ → (fun k_ => P0 k_ ∨ P1 k_) k_ ∨ w.heap.size ≤ k_ from fun k_ h_ => .inr (Nat.le_trans HB.out.size (hPF4 k_ h_).1))
              replace H0 := Aside0.mk (H0.out.step hk no_S)
              replace H1 := Aside0.mk (H1.out.step hk no_S)
              replace HX1 := Aside0.mk (HX1.out.step hk no_S)
              replace HX2 := Aside0.mk (HX2.out.step hk no_S)
              replace HX3 := Aside0.mk (HX3.out.step hk no_S)
              clear hPF4
              obtain ⟨BF4, DF4, e_F4⟩ := HF4.out.val
              subst e_F4
              replace HB := Aside0.mk (below_step HB.out hb)
              clear hb hk
              (try clear hxX1_0 hfX1_0 hxX1_1 hfX1_1)
              have hxX1_0 := (HX1.out.cell 0).trans (show _ = some (.slice B0 l0.length D0) from rfl)
              have hfX1_0 := HX1.out.frozen 0
              have hxX1_1 := (HX1.out.cell 1).trans (show _ = some (.slice B1 l1.length D1) from rfl)
              have hfX1_1 := HX1.out.frozen 1
              (try clear hxX2_0 hfX2_0 hxX2_1 hfX2_1 hxX2_2 hfX2_2 hxX2_3 hfX2_3)
              have hxX2_0 := (HX2.out.cell 0).trans (show _ = some (.int .i64 a0) from rfl)
              have hfX2_0 := HX2.out.frozen 0
              have hxX2_1 := (HX2.out.cell 1).trans (show _ = some (.int .i64 a1) from rfl)
              have hfX2_1 := HX2.out.frozen 1
              have hxX2_2 := (HX2.out.cell 2).trans (show _ = some (.int .i64 a2) from rfl)
              have hfX2_2 := HX2.out.frozen 2
              have hxX2_3 := (HX2.out.cell 3).trans (show _ = some (.slice A3 l3.length c3) from rfl)
              have hfX2_3 := HX2.out.frozen 3
              (try clear hxX3_0 hfX3_0 hxX3_1 hfX3_1)
              have hxX3_0 := (HX3.out.cell 0).trans (show _ = some (.slice none 0 0) from rfl)
              have hfX3_0 := HX3.out.frozen 0
              have hxX3_1 := (HX3.out.cell 1).trans (show _ = some (.slice none 0 0) from rfl)
              have hfX3_1 := HX3.out.frozen 1
              replace HF4 := Aside0.mk HF4.out.toLM
              refine hK.out _ _ ⟨hxX1_1, hxX2_3⟩ (fun hHeld => ?_)
              clear hK K
              refine norm_ (a' := ?_) ?_ ?_
              rotate_left
              · show Act.put _ (some 19) _ = _
                simp only [Act.put, List.setIfInBounds_toArray, List.set_cons_zero, List.set_cons_succ, i64_w, i32_w]
                rfl
              refine two_ (i := 3) (j := 4) (Ni := some 22) (Nj := some 23) #[true, true, true, true, false, true, true, false, false, false, false, false] #[true, true, true, false, true, true, true, false, false, false, false, false] rfl rfl rfl rfl (two_of HT_.out (by kernel_rfl)) (by decide) (by decide) (fun K hK => ?_) (fun K hK => ?_)
              · refine LM.append_rows_step (Kd.slice 5 (Kd.int .u8)) (w0 := w) (by rfl) (.tmp 19) (.tmp 21) 23 22 (.slice none 0 0) 24 rfl Try.underlying23 info22 rfl (by decide) (by omega) (.slice BF4 ya.length DF4) ya l1 _ _ _ rfl rfl HF4.out H1.out (apart_symm D_1_F4.out) HB.out ?aL_6 ?_
                (case aL_6 => have := LM2.out; omega)
                intro PF5 v_ w2 HL hb hk hR
                have D_0_F5 := Aside0.mk (apart_app hR H0.out.lt (apart_or D_0_F4.out D_0_1.out))
                have D_X1_F5 := Aside0.mk (apart_app hR HX1.out.lt (apart_or D_X1_F4.out (apart_symm D_1_X1.out)))
                have D_X2_F5 := Aside0.mk (apart_app hR HX2.out.lt (apart_or D_X2_F4.out (apart_symm D_1_X2.out)))
                have D_X3_F5 := Aside0.mk (apart_app hR HX3.out.lt (apart_or D_X3_F4.out (apart_symm D_1_X3.out)))
                have RRF5 := Aside0.mk (show ∀ k_, PF5 k_ → (fun k_ => P0 k_ ∨ P1 k_) k_ ∨ w.heap.size ≤ k_ from rr_app hR HB.out.size (rr_or RRF4.out RR1.out))
                replace H0 := Aside0.mk (H0.out.step hk D_0_F4.out)
                replace HX1 := Aside0.mk (HX1.out.step hk D_X1_F4.out)
                replace HX2 := Aside0.mk (HX2.out.step hk D_X2_F4.out)
                replace HX3 := Aside0.mk (HX3.out.step hk D_X3_F4.out)
                rw [← Ny1.out] at HL
                have HF5 := Aside0.mk HL
                replace HB := Aside0.mk hb
                clear hR HL hb hk
                clear HF4
                clear H1
                obtain ⟨BF5, DF5, e_F5⟩ := HF5.out.val
                subst e_F5
                (try clear hxX1_0 hfX1_0 hxX1_1 hfX1_1)
                have hxX1_0 := (HX1.out.cell 0).trans (show _ = some (.slice B0 l0.length D0) from rfl)
                have hfX1_0 := HX1.out.frozen 0
                have hxX1_1 := (HX1.out.cell 1).trans (show _ = some (.slice B1 l1.length D1) from rfl)
                have hfX1_1 := HX1.out.frozen 1
                (try clear hxX2_0 hfX2_0 hxX2_1 hfX2_1 hxX2_2 hfX2_2 hxX2_3 hfX2_3)
                have hxX2_0 := (HX2.out.cell 0).trans (show _ = some (.int .i64 a0) from rfl)
                have hfX2_0 := HX2.out.frozen 0
                have hxX2_1 := (HX2.out.cell 1).trans (show _ = some (.int .i64 a1) from rfl)
                have hfX2_1 := HX2.out.frozen 1
                have hxX2_2 := (HX2.out.cell 2).trans (show _ = some (.int .i64 a2) from rfl)
                have hfX2_2 := HX2.out.frozen 2
                have hxX2_3 := (HX2.out.cell 3).trans (show _ = some (.slice A3 l3.length c3) from rfl)
                have hfX2_3 := HX2.out.frozen 3
                (try clear hxX3_0 hfX3_0 hxX3_1 hfX3_1)
                have hxX3_0 := (HX3.out.cell 0).trans (show _ = some (.slice none 0 0) from rfl)
                have hfX3_0 := HX3.out.frozen 0
                have hxX3_1 := (HX3.out.cell 1).trans (show _ = some (.slice none 0 0) from rfl)
                have hfX3_1 := HX3.out.frozen 1
                refine hK.out _ _ ⟨hxX1_1, hxX2_3⟩ (fun hHeld => ?_)
                clear hK K
                refine norm_ (a' := ?_) ?_ ?_
                rotate_left
                · show Act.put _ (some 22) _ = _
                  simp only [Act.put, List.setIfInBounds_toArray, List.set_cons_zero, List.set_cons_succ, i64_w, i32_w]
                  rfl
                refine one_ (i := 4) (N := some 23) #[true, true, true, true, true, true, true, false, false, false, false, false] rfl rfl (one_of HT_.out (by kernel_rfl)) (by decide) (fun K hK => ?_)
                refine Kd.R_lit_step (Kd.int .u8) _ 5 ?hg_7 (N := 23) ?hd_7 (xs := ([] : List Int)) (inner := []) (ok := fun _ => True) (okp := fun _ => True) ?hr_7 ?hp_7 (fun _ hk => hk) trivial (Below.refl _ _) (Nat.le_refl _) (by simp) ?_
                (case hd_7 => rfl)
                (case hg_7 => exact (by rfl))
                (case hr_7 => first | (go_simp; done) | (go_simp; rfl))
                (case hp_7 => exact (Reps.none _ _))
                intro vF6 w2 hrF6 hb hg_ hnew_
                clear hg_ hnew_
                rw [← Nyb.out] at hrF6
                have hk := kept_below hb
                obtain ⟨PF6, hPF6, HLF6⟩ := LR.fresh rfl HB.out hrF6
                have HF6 := Aside0.mk HLF6
                clear HLF6 hrF6
                have D_0_F6 := Aside0.mk (new_apart H0.out.lt hPF6)
                have D_X1_F6 := Aside0.mk (new_apart HX1.out.lt hPF6)
                have D_X2_F6 := Aside0.mk (new_apart HX2.out.lt hPF6)
                have D_X3_F6 := Aside0.mk (new_apart HX3.out.lt hPF6)
                have D_F5_F6 := Aside0.mk (new_apart HF5.out.lt hPF6)
                have RRF6 := Aside0.mk (show ∀ k_, PF6 k_ → (fun k_ => P0 k_ ∨ P1 k_) k_ ∨ w.heap.size ≤ k_ from fun k_ h_ => .inr (Nat.le_trans HB.out.size (hPF6 k_ h_).1))
                replace H0 := Aside0.mk (H0.out.step hk no_S)
                replace HX1 := Aside0.mk (HX1.out.step hk no_S)
                replace HX2 := Aside0.mk (HX2.out.step hk no_S)
                replace HX3 := Aside0.mk (HX3.out.step hk no_S)
                replace HF5 := Aside0.mk (HF5.out.step hk no_S)
                clear hPF6
                obtain ⟨BF6, DF6, e_F6⟩ := HF6.out.val
                subst e_F6
                replace HB := Aside0.mk (below_step HB.out hb)
                clear hb hk
                (try clear hxX1_0 hfX1_0 hxX1_1 hfX1_1)
                have hxX1_0 := (HX1.out.cell 0).trans (show _ = some (.slice B0 l0.length D0) from rfl)
                have hfX1_0 := HX1.out.frozen 0
                have hxX1_1 := (HX1.out.cell 1).trans (show _ = some (.slice B1 l1.length D1) from rfl)
                have hfX1_1 := HX1.out.frozen 1
                (try clear hxX2_0 hfX2_0 hxX2_1 hfX2_1 hxX2_2 hfX2_2 hxX2_3 hfX2_3)
                have hxX2_0 := (HX2.out.cell 0).trans (show _ = some (.int .i64 a0) from rfl)
                have hfX2_0 := HX2.out.frozen 0
                have hxX2_1 := (HX2.out.cell 1).trans (show _ = some (.int .i64 a1) from rfl)
                have hfX2_1 := HX2.out.frozen 1
                have hxX2_2 := (HX2.out.cell 2).trans (show _ = some (.int .i64 a2) from rfl)
                have hfX2_2 := HX2.out.frozen 2
                have hxX2_3 := (HX2.out.cell 3).trans (show _ = some (.slice A3 l3.length c3) from rfl)
                have hfX2_3 := HX2.out.frozen 3
                (try clear hxX3_0 hfX3_0 hxX3_1 hfX3_1)
                have hxX3_0 := (HX3.out.cell 0).trans (show _ = some (.slice none 0 0) from rfl)
                have hfX3_0 := HX3.out.frozen 0
                have hxX3_1 := (HX3.out.cell 1).trans (show _ = some (.slice none 0 0) from rfl)
                have hfX3_1 := HX3.out.frozen 1
                refine hK.out _ _ ⟨hxX1_1, hxX2_3⟩ (fun hHeld => ?_)
                clear hK K
                refine norm_ (a' := ?_) ?_ ?_
                rotate_left
                · show Act.put _ (some 23) _ = _
                  simp only [Act.put, List.setIfInBounds_toArray, List.set_cons_zero, List.set_cons_succ, i64_w, i32_w]
                  rfl
                refine one_ (i := 7) (N := some 26) #[true, true, true, true, true, true, true, true, false, false, false, false] rfl rfl (one_of HT_.out (by kernel_rfl)) (by decide) (fun K hK => ?_)
                refine LR.append_read_step (Kd.int .u8) (w0 := w) (by rfl) (.tmp 23) (.tmp 25) 22 5 (.int .u8 0) 1 rfl Try.underlying22 info5 rfl (by decide) (by omega) (.slice BF6 yb.length DF6) yb l3 _ _ _ rfl rfl (fun _ _ h_ => h_) HF6.out (Kd.C_below HR3.out HB.out) HB.out ?aL_8 ?_
                (case aL_8 => have := LM3.out; omega)
                intro PF7 v_ w2 HL hb hk hR
                have D_0_F7 := Aside0.mk (apart_app hR H0.out.lt D_0_F6.out)
                have D_X1_F7 := Aside0.mk (apart_app hR HX1.out.lt D_X1_F6.out)
                have D_X2_F7 := Aside0.mk (apart_app hR HX2.out.lt D_X2_F6.out)
                have D_X3_F7 := Aside0.mk (apart_app hR HX3.out.lt D_X3_F6.out)
                have D_F5_F7 := Aside0.mk (apart_app hR HF5.out.lt D_F5_F6.out)
                have RRF7 := Aside0.mk (show ∀ k_, PF7 k_ → (fun k_ => P0 k_ ∨ P1 k_) k_ ∨ w.heap.size ≤ k_ from rr_app hR HB.out.size RRF6.out)
                replace H0 := Aside0.mk (H0.out.step hk D_0_F6.out)
                replace HX1 := Aside0.mk (HX1.out.step hk D_X1_F6.out)
                replace HX2 := Aside0.mk (HX2.out.step hk D_X2_F6.out)
                replace HX3 := Aside0.mk (HX3.out.step hk D_X3_F6.out)
                replace HF5 := Aside0.mk (HF5.out.step hk D_F5_F6.out)
                rw [← Ny2.out] at HL
                have HF7 := Aside0.mk HL
                replace HB := Aside0.mk hb
                clear hR HL hb hk
                clear HF6
                obtain ⟨BF7, DF7, e_F7⟩ := HF7.out.val
                subst e_F7
                (try clear hxX1_0 hfX1_0 hxX1_1 hfX1_1)
                have hxX1_0 := (HX1.out.cell 0).trans (show _ = some (.slice B0 l0.length D0) from rfl)
                have hfX1_0 := HX1.out.frozen 0
                have hxX1_1 := (HX1.out.cell 1).trans (show _ = some (.slice B1 l1.length D1) from rfl)
                have hfX1_1 := HX1.out.frozen 1
                (try clear hxX2_0 hfX2_0 hxX2_1 hfX2_1 hxX2_2 hfX2_2 hxX2_3 hfX2_3)
                have hxX2_0 := (HX2.out.cell 0).trans (show _ = some (.int .i64 a0) from rfl)
                have hfX2_0 := HX2.out.frozen 0
                have hxX2_1 := (HX2.out.cell 1).trans (show _ = some (.int .i64 a1) from rfl)
                have hfX2_1 := HX2.out.frozen 1
                have hxX2_2 := (HX2.out.cell 2).trans (show _ = some (.int .i64 a2) from rfl)
                have hfX2_2 := HX2.out.frozen 2
                have hxX2_3 := (HX2.out.cell 3).trans (show _ = some (.slice A3 l3.length c3) from rfl)
                have hfX2_3 := HX2.out.frozen 3
                (try clear hxX3_0 hfX3_0 hxX3_1 hfX3_1)
                have hxX3_0 := (HX3.out.cell 0).trans (show _ = some (.slice none 0 0) from rfl)
                have hfX3_0 := HX3.out.frozen 0
                have hxX3_1 := (HX3.out.cell 1).trans (show _ = some (.slice none 0 0) from rfl)
                have hfX3_1 := HX3.out.frozen 1
                refine hK.out _ _ ⟨hxX1_1, hxX2_3⟩ (fun hHeld => ?_)
                clear hK K
                refine norm_ (a' := ?_) ?_ ?_
                rotate_left
                · show Act.put _ (some 26) _ = _
                  simp only [Act.put, List.setIfInBounds_toArray, List.set_cons_zero, List.set_cons_succ, i64_w, i32_w]
                  rfl
                refine one_ (i := 8) (N := some 27) #[true, true, true, true, true, true, true, true, true, false, false, false] rfl rfl (one_of HT_.out (by kernel_rfl)) (by decide) (fun K hK => ?_)
                refine event_step (by rfl) (by first | (go_simp; exact ⟨rfl, rfl⟩) | (go_simp; done) | (go_simp; rfl)) ?_
                refine hK.out _ _ ⟨(pw_cell_below (below_alloc (Below.refl _ _) _) hxX1_1), (pw_cell_below (below_alloc (Below.refl _ _) _) hxX2_3)⟩ (fun hHeld => ?_)
                clear hK K
                refine norm_ (a' := ?_) ?_ ?_
                rotate_left
                · show Act.put _ (some 27) _ = _
                  simp only [Act.put, List.setIfInBounds_toArray, List.set_cons_zero, List.set_cons_succ, i64_w, i32_w]
                  rfl
                refine one_ (i := 9) (N := some 28) #[true, true, true, true, true, true, true, true, true, true, false, false] rfl rfl (one_of HT_.out (by kernel_rfl)) (by decide) (fun K hK => ?_)
                refine LM.append1_step (Kd.slice 5 (Kd.int .u8)) (w0 := w) (by rfl) (.tmp 22) (.tmp 27) 23 22 (.slice none 0 0) 24 rfl Try.underlying23 info22 rfl (by decide) (by omega) (.slice BF5 y1.length DF5) y1 y2 [.slice BF7 y2.length DF7] rfl rfl (by simp) HF5.out (LR.FK HF7.out) D_F5_F7.out HB.out ?aL_9 ?_
                (case aL_9 => have := LM4.out; omega)
                intro PF8 v_ w2 HL hb hk hR
                have D_0_F8 := Aside0.mk (apart_app hR H0.out.lt (apart_or D_0_F5.out D_0_F7.out))
                have D_X1_F8 := Aside0.mk (apart_app hR HX1.out.lt (apart_or D_X1_F5.out D_X1_F7.out))
                have D_X2_F8 := Aside0.mk (apart_app hR HX2.out.lt (apart_or D_X2_F5.out D_X2_F7.out))
                have D_X3_F8 := Aside0.mk (apart_app hR HX3.out.lt (apart_or D_X3_F5.out D_X3_F7.out))
                have RRF8 := Aside0.mk (show ∀ k_, PF8 k_ → (fun k_ => P0 k_ ∨ P1 k_) k_ ∨ w.heap.size ≤ k_ from rr_app hR HB.out.size (rr_or RRF5.out RRF7.out))
                replace H0 := Aside0.mk (H0.out.step hk D_0_F5.out)
                replace HX1 := Aside0.mk (HX1.out.step hk D_X1_F5.out)
                replace HX2 := Aside0.mk (HX2.out.step hk D_X2_F5.out)
                replace HX3 := Aside0.mk (HX3.out.step hk D_X3_F5.out)
                rw [← Ny3.out] at HL
                have HF8 := Aside0.mk HL
                replace HB := Aside0.mk hb
                clear hR HL hb hk
                clear HF5
                clear HF7
                obtain ⟨BF8, DF8, e_F8⟩ := HF8.out.val
                subst e_F8
                (try clear hxX1_0 hfX1_0 hxX1_1 hfX1_1)
                have hxX1_0 := (HX1.out.cell 0).trans (show _ = some (.slice B0 l0.length D0) from rfl)
                have hfX1_0 := HX1.out.frozen 0
                have hxX1_1 := (HX1.out.cell 1).trans (show _ = some (.slice B1 l1.length D1) from rfl)
                have hfX1_1 := HX1.out.frozen 1
                (try clear hxX2_0 hfX2_0 hxX2_1 hfX2_1 hxX2_2 hfX2_2 hxX2_3 hfX2_3)
                have hxX2_0 := (HX2.out.cell 0).trans (show _ = some (.int .i64 a0) from rfl)
                have hfX2_0 := HX2.out.frozen 0
                have hxX2_1 := (HX2.out.cell 1).trans (show _ = some (.int .i64 a1) from rfl)
                have hfX2_1 := HX2.out.frozen 1
                have hxX2_2 := (HX2.out.cell 2).trans (show _ = some (.int .i64 a2) from rfl)
                have hfX2_2 := HX2.out.frozen 2
                have hxX2_3 := (HX2.out.cell 3).trans (show _ = some (.slice A3 l3.length c3) from rfl)
                have hfX2_3 := HX2.out.frozen 3
                (try clear hxX3_0 hfX3_0 hxX3_1 hfX3_1)
                have hxX3_0 := (HX3.out.cell 0).trans (show _ = some (.slice none 0 0) from rfl)
                have hfX3_0 := HX3.out.frozen 0
                have hxX3_1 := (HX3.out.cell 1).trans (show _ = some (.slice none 0 0) from rfl)
                have hfX3_1 := HX3.out.frozen 1
                refine hK.out _ _ ⟨hxX1_1, hxX2_3⟩ (fun hHeld => ?_)
                clear hK K
                refine norm_ (a' := ?_) ?_ ?_
                rotate_left
                · show Act.put _ (some 28) _ = _
                  simp only [Act.put, List.setIfInBounds_toArray, List.set_cons_zero, List.set_cons_succ, i64_w, i32_w]
                  rfl
                refine pure_ (i := 10) (N := some 29) (v := ?_) (a' := ?_) #[true, true, true, true, true, true, true, true, true, true, true, false] rfl rfl (any_of HT_.out (by kernel_rfl)) (fun _ _ _ h => h) (Or.inl ⟨by rfl, ?_⟩) ?_ ?_
                rotate_left
                · intro w'
                  go_simp
                  with_reducible rfl
                rotate_left
                · simp only [Act.put, List.setIfInBounds_toArray, List.set_cons_zero, List.set_cons_succ, i64_w, i32_w]
                  rfl
                refine last_ (i := 11) (N := none) #[true, true, true, true, true, true, true, true, true, true, true, true] rfl rfl (one_of HT_.out (by kernel_rfl)) (by decide) (fun K hK => ?_)
                refine LB.stored_step HX1.out HB.out GEX1.out 1 [.slice BF8 y3.length DF8] (by rfl) rfl ?hr_10 ?_
                (case hr_10 => first | (go_simp; done) | (go_simp; rfl))
                intro w2 hx hk hb
                replace H0 := Aside0.mk (H0.out.step hk D_0_X1.out)
                replace HX2 := Aside0.mk (HX2.out.step hk (apart_symm D_X1_X2.out))
                replace HX3 := Aside0.mk (HX3.out.step hk (apart_symm D_X1_X3.out))
                replace HF8 := Aside0.mk (HF8.out.step hk (apart_symm D_X1_F8.out))
                replace HB := Aside0.mk hb
                replace HX1 := Aside0.mk (show LB w2 PX1 gX1 29 #[.slice B0 l0.length D0, .slice BF8 y3.length DF8] from hx)
                clear hk hx hb
                (try clear hxX1_0 hfX1_0 hxX1_1 hfX1_1)
                have hxX1_0 := (HX1.out.cell 0).trans (show _ = some (.slice B0 l0.length D0) from rfl)
                have hfX1_0 := HX1.out.frozen 0
                have hxX1_1 := (HX1.out.cell 1).trans (show _ = some (.slice BF8 y3.length DF8) from rfl)
                have hfX1_1 := HX1.out.frozen 1
                (try clear hxX2_0 hfX2_0 hxX2_1 hfX2_1 hxX2_2 hfX2_2 hxX2_3 hfX2_3)
                have hxX2_0 := (HX2.out.cell 0).trans (show _ = some (.int .i64 a0) from rfl)
                have hfX2_0 := HX2.out.frozen 0
                have hxX2_1 := (HX2.out.cell 1).trans (show _ = some (.int .i64 a1) from rfl)
                have hfX2_1 := HX2.out.frozen 1
                have hxX2_2 := (HX2.out.cell 2).trans (show _ = some (.int .i64 a2) from rfl)
                have hfX2_2 := HX2.out.frozen 2
                have hxX2_3 := (HX2.out.cell 3).trans (show _ = some (.slice A3 l3.length c3) from rfl)
                have hfX2_3 := HX2.out.frozen 3
                (try clear hxX3_0 hfX3_0 hxX3_1 hfX3_1)
                have hxX3_0 := (HX3.out.cell 0).trans (show _ = some (.slice none 0 0) from rfl)
                have hfX3_0 := HX3.out.frozen 0
                have hxX3_1 := (HX3.out.cell 1).trans (show _ = some (.slice none 0 0) from rfl)
                have hfX3_1 := HX3.out.frozen 1
                refine hK.out _ _ ?_
                clear hK K
                refine done_ (done_of HT_.out (by kernel_rfl)) ?_
                go_wp2_with (first | ((with_reducible refine gate_store (t := 29) (p := 4) rfl ?_); refine LB.stored HX3.out HB.out GEX3.out 0 [.slice B0 l0.length D0, .slice BF8 y3.length DF8] rfl (t := 29) (p := 4) rfl rfl ?hr_11 ?_; (case hr_11 => first | (go_simp; done) | (go_simp; rfl)); intro w2 hx hk hb; replace H0 := Aside0.mk (H0.out.step hk D_0_X3.out); replace HX1 := Aside0.mk (HX1.out.step hk D_X1_X3.out); replace HX2 := Aside0.mk (HX2.out.step hk D_X2_X3.out); replace HF8 := Aside0.mk (HF8.out.step hk (apart_symm D_X3_F8.out)); replace HB := Aside0.mk hb; replace HX3 := Aside0.mk (show LB w2 PX3 gX3 29 #[.slice B0 l0.length D0, .slice BF8 y3.length DF8] from hx); clear hk hx hb; (try clear hxX1_0 hfX1_0 hxX1_1 hfX1_1); have hxX1_0 := (HX1.out.cell 0).trans (show _ = some (.slice B0 l0.length D0) from rfl); have hfX1_0 := HX1.out.frozen 0; have hxX1_1 := (HX1.out.cell 1).trans (show _ = some (.slice BF8 y3.length DF8) from rfl); have hfX1_1 := HX1.out.frozen 1; (try clear hxX2_0 hfX2_0 hxX2_1 hfX2_1 hxX2_2 hfX2_2 hxX2_3 hfX2_3); have hxX2_0 := (HX2.out.cell 0).trans (show _ = some (.int .i64 a0) from rfl); have hfX2_0 := HX2.out.frozen 0; have hxX2_1 := (HX2.out.cell 1).trans (show _ = some (.int .i64 a1) from rfl); have hfX2_1 := HX2.out.frozen 1; have hxX2_2 := (HX2.out.cell 2).trans (show _ = some (.int .i64 a2) from rfl); have hfX2_2 := HX2.out.frozen 2; have hxX2_3 := (HX2.out.cell 3).trans (show _ = some (.slice A3 l3.length c3) from rfl); have hfX2_3 := HX2.out.frozen 3; (try clear hxX3_0 hfX3_0 hxX3_1 hfX3_1); have hxX3_0 := (HX3.out.cell 0).trans (show _ = some (.slice B0 l0.length D0) from rfl); have hfX3_0 := HX3.out.frozen 0; have hxX3_1 := (HX3.out.cell 1).trans (show _ = some (.slice BF8 y3.length DF8) from rfl); have hfX3_1 := HX3.out.frozen 1))
                refine bodyPost_ret (results_ct rfl _ _ gX3 29 #[.slice B0 l0.length D0, .slice BF8 y3.length DF8] (0, 0) _ rfl HX3.out.2.1 Try.underlying29 rfl (by kernel_rfl)) rfl ?_
                exact ⟨_, _, _, _, rfl, H0.out, HF8.out.toLN, fun _ hk => .inl (.inl hk), RRF8.out, D_0_F8.out, HB.out⟩
              · refine Kd.R_lit_step (Kd.int .u8) _ 5 ?hg_12 (N := 23) ?hd_12 (xs := ([] : List Int)) (inner := []) (ok := fun _ => True) (okp := fun _ => True) ?hr_12 ?hp_12 (fun _ hk => hk) trivial (Below.refl _ _) (Nat.le_refl _) (by simp) ?_
                (case hd_12 => rfl)
                (case hg_12 => exact (by rfl))
                (case hr_12 => first | (go_simp; done) | (go_simp; rfl))
                (case hp_12 => exact (Reps.none _ _))
                intro vF9 w2 hrF9 hb hg_ hnew_
                clear hg_ hnew_
                rw [← Nyb.out] at hrF9
                have hk := kept_below hb
                obtain ⟨PF9, hPF9, HLF9⟩ := LR.fresh rfl HB.out hrF9
                have HF9 := Aside0.mk HLF9
                clear HLF9 hrF9
                have D_0_F9 := Aside0.mk (new_apart H0.out.lt hPF9)
                have D_1_F9 := Aside0.mk (new_apart H1.out.lt hPF9)
                have D_X1_F9 := Aside0.mk (new_apart HX1.out.lt hPF9)
                have D_X2_F9 := Aside0.mk (new_apart HX2.out.lt hPF9)
                have D_X3_F9 := Aside0.mk (new_apart HX3.out.lt hPF9)
                have D_F4_F9 := Aside0.mk (new_apart HF4.out.lt hPF9)
                have RRF9 := Aside0.mk (show ∀ k_, PF9 k_ → (fun k_ => P0 k_ ∨ P1 k_) k_ ∨ w.heap.size ≤ k_ from fun k_ h_ => .inr (Nat.le_trans HB.out.size (hPF9 k_ h_).1))
                replace H0 := Aside0.mk (H0.out.step hk no_S)
                replace H1 := Aside0.mk (H1.out.step hk no_S)
                replace HX1 := Aside0.mk (HX1.out.step hk no_S)
                replace HX2 := Aside0.mk (HX2.out.step hk no_S)
                replace HX3 := Aside0.mk (HX3.out.step hk no_S)
                replace HF4 := Aside0.mk (HF4.out.step hk no_S)
                clear hPF9
                obtain ⟨BF9, DF9, e_F9⟩ := HF9.out.val
                subst e_F9
                replace HB := Aside0.mk (below_step HB.out hb)
                clear hb hk
                (try clear hxX1_0 hfX1_0 hxX1_1 hfX1_1)
                have hxX1_0 := (HX1.out.cell 0).trans (show _ = some (.slice B0 l0.length D0) from rfl)
                have hfX1_0 := HX1.out.frozen 0
                have hxX1_1 := (HX1.out.cell 1).trans (show _ = some (.slice B1 l1.length D1) from rfl)
                have hfX1_1 := HX1.out.frozen 1
                (try clear hxX2_0 hfX2_0 hxX2_1 hfX2_1 hxX2_2 hfX2_2 hxX2_3 hfX2_3)
                have hxX2_0 := (HX2.out.cell 0).trans (show _ = some (.int .i64 a0) from rfl)
                have hfX2_0 := HX2.out.frozen 0
                have hxX2_1 := (HX2.out.cell 1).trans (show _ = some (.int .i64 a1) from rfl)
                have hfX2_1 := HX2.out.frozen 1
                have hxX2_2 := (HX2.out.cell 2).trans (show _ = some (.int .i64 a2) from rfl)
                have hfX2_2 := HX2.out.frozen 2
                have hxX2_3 := (HX2.out.cell 3).trans (show _ = some (.slice A3 l3.length c3) from rfl)
                have hfX2_3 := HX2.out.frozen 3
                (try clear hxX3_0 hfX3_0 hxX3_1 hfX3_1)
                have hxX3_0 := (HX3.out.cell 0).trans (show _ = some (.slice none 0 0) from rfl)
                have hfX3_0 := HX3.out.frozen 0
                have hxX3_1 := (HX3.out.cell 1).trans (show _ = some (.slice none 0 0) from rfl)
                have hfX3_1 := HX3.out.frozen 1
                refine hK.out _ _ ⟨hxX1_1, hxX2_3⟩ (fun hHeld => ?_)
                clear hK K
                refine norm_ (a' := ?_) ?_ ?_
                rotate_left
                · show Act.put _ (some 23) _ = _
                  simp only [Act.put, List.setIfInBounds_toArray, List.set_cons_zero, List.set_cons_succ, i64_w, i32_w]
                  rfl
                refine one_ (i := 3) (N := some 22) #[true, true, true, true, true, true, true, false, false, false, false, false] rfl rfl (one_of HT_.out (by kernel_rfl)) (by decide) (fun K hK => ?_)
                refine LM.append_rows_step (Kd.slice 5 (Kd.int .u8)) (w0 := w) (by rfl) (.tmp 19) (.tmp 21) 23 22 (.slice none 0 0) 24 rfl Try.underlying23 info22 rfl (by decide) (by omega) (.slice BF4 ya.length DF4) ya l1 _ _ _ rfl rfl HF4.out H1.out (apart_symm D_1_F4.out) HB.out ?aL_13 ?_
                (case aL_13 => have := LM2.out; omega)
                intro PF10 v_ w2 HL hb hk hR
                have D_0_F10 := Aside0.mk (apart_app hR H0.out.lt (apart_or D_0_F4.out D_0_1.out))
                have D_X1_F10 := Aside0.mk (apart_app hR HX1.out.lt (apart_or D_X1_F4.out (apart_symm D_1_X1.out)))
                have D_X2_F10 := Aside0.mk (apart_app hR HX2.out.lt (apart_or D_X2_F4.out (apart_symm D_1_X2.out)))
                have D_X3_F10 := Aside0.mk (apart_app hR HX3.out.lt (apart_or D_X3_F4.out (apart_symm D_1_X3.out)))
                have D_F9_F10 := Aside0.mk (apart_app hR HF9.out.lt (apart_or (apart_symm D_F4_F9.out) (apart_symm D_1_F9.out)))
                have RRF10 := Aside0.mk (show ∀ k_, PF10 k_ → (fun k_ => P0 k_ ∨ P1 k_) k_ ∨ w.heap.size ≤ k_ from rr_app hR HB.out.size (rr_or RRF4.out RR1.out))
                replace H0 := Aside0.mk (H0.out.step hk D_0_F4.out)
                replace HX1 := Aside0.mk (HX1.out.step hk D_X1_F4.out)
                replace HX2 := Aside0.mk (HX2.out.step hk D_X2_F4.out)
                replace HX3 := Aside0.mk (HX3.out.step hk D_X3_F4.out)
                replace HF9 := Aside0.mk (HF9.out.step hk (apart_symm D_F4_F9.out))
                rw [← Ny1.out] at HL
                have HF10 := Aside0.mk HL
                replace HB := Aside0.mk hb
                clear hR HL hb hk
                clear HF4
                clear H1
                obtain ⟨BF10, DF10, e_F10⟩ := HF10.out.val
                subst e_F10
                (try clear hxX1_0 hfX1_0 hxX1_1 hfX1_1)
                have hxX1_0 := (HX1.out.cell 0).trans (show _ = some (.slice B0 l0.length D0) from rfl)
                have hfX1_0 := HX1.out.frozen 0
                have hxX1_1 := (HX1.out.cell 1).trans (show _ = some (.slice B1 l1.length D1) from rfl)
                have hfX1_1 := HX1.out.frozen 1
                (try clear hxX2_0 hfX2_0 hxX2_1 hfX2_1 hxX2_2 hfX2_2 hxX2_3 hfX2_3)
                have hxX2_0 := (HX2.out.cell 0).trans (show _ = some (.int .i64 a0) from rfl)
                have hfX2_0 := HX2.out.frozen 0
                have hxX2_1 := (HX2.out.cell 1).trans (show _ = some (.int .i64 a1) from rfl)
                have hfX2_1 := HX2.out.frozen 1
                have hxX2_2 := (HX2.out.cell 2).trans (show _ = some (.int .i64 a2) from rfl)
                have hfX2_2 := HX2.out.frozen 2
                have hxX2_3 := (HX2.out.cell 3).trans (show _ = some (.slice A3 l3.length c3) from rfl)
                have hfX2_3 := HX2.out.frozen 3
                (try clear hxX3_0 hfX3_0 hxX3_1 hfX3_1)
                have hxX3_0 := (HX3.out.cell 0).trans (show _ = some (.slice none 0 0) from rfl)
                have hfX3_0 := HX3.out.frozen 0
                have hxX3_1 := (HX3.out.cell 1).trans (show _ = some (.slice none 0 0) from rfl)
                have hfX3_1 := HX3.out.frozen 1
                refine hK.out _ _ ⟨hxX1_1, hxX2_3⟩ (fun hHeld => ?_)
                clear hK K
                refine norm_ (a' := ?_) ?_ ?_
                rotate_left
                · show Act.put _ (some 22) _ = _
                  simp only [Act.put, List.setIfInBounds_toArray, List.set_cons_zero, List.set_cons_succ, i64_w, i32_w]
                  rfl
                refine one_ (i := 7) (N := some 26) #[true, true, true, true, true, true, true, true, false, false, false, false] rfl rfl (one_of HT_.out (by kernel_rfl)) (by decide) (fun K hK => ?_)
                refine LR.append_read_step (Kd.int .u8) (w0 := w) (by rfl) (.tmp 23) (.tmp 25) 22 5 (.int .u8 0) 1 rfl Try.underlying22 info5 rfl (by decide) (by omega) (.slice BF9 yb.length DF9) yb l3 _ _ _ rfl rfl (fun _ _ h_ => h_) HF9.out (Kd.C_below HR3.out HB.out) HB.out ?aL_14 ?_
                (case aL_14 => have := LM3.out; omega)
                intro PF11 v_ w2 HL hb hk hR
                have D_0_F11 := Aside0.mk (apart_app hR H0.out.lt D_0_F9.out)
                have D_X1_F11 := Aside0.mk (apart_app hR HX1.out.lt D_X1_F9.out)
                have D_X2_F11 := Aside0.mk (apart_app hR HX2.out.lt D_X2_F9.out)
                have D_X3_F11 := Aside0.mk (apart_app hR HX3.out.lt D_X3_F9.out)
                have D_F10_F11 := Aside0.mk (apart_app hR HF10.out.lt (apart_symm D_F9_F10.out))
                have RRF11 := Aside0.mk (show ∀ k_, PF11 k_ → (fun k_ => P0 k_ ∨ P1 k_) k_ ∨ w.heap.size ≤ k_ from rr_app hR HB.out.size RRF9.out)
                replace H0 := Aside0.mk (H0.out.step hk D_0_F9.out)
                replace HX1 := Aside0.mk (HX1.out.step hk D_X1_F9.out)
                replace HX2 := Aside0.mk (HX2.out.step hk D_X2_F9.out)
                replace HX3 := Aside0.mk (HX3.out.step hk D_X3_F9.out)
                replace HF10 := Aside0.mk (HF10.out.step hk (apart_symm D_F9_F10.out))
                rw [← Ny2.out] at HL
                have HF11 := Aside0.mk HL
                replace HB := Aside0.mk hb
                clear hR HL hb hk
                clear HF9
                obtain ⟨BF11, DF11, e_F11⟩ := HF11.out.val
                subst e_F11
                (try clear hxX1_0 hfX1_0 hxX1_1 hfX1_1)
                have hxX1_0 := (HX1.out.cell 0).trans (show _ = some (.slice B0 l0.length D0) from rfl)
                have hfX1_0 := HX1.out.frozen 0
                have hxX1_1 := (HX1.out.cell 1).trans (show _ = some (.slice B1 l1.length D1) from rfl)
                have hfX1_1 := HX1.out.frozen 1
                (try clear hxX2_0 hfX2_0 hxX2_1 hfX2_1 hxX2_2 hfX2_2 hxX2_3 hfX2_3)
                have hxX2_0 := (HX2.out.cell 0).trans (show _ = some (.int .i64 a0) from rfl)
                have hfX2_0 := HX2.out.frozen 0
                have hxX2_1 := (HX2.out.cell 1).trans (show _ = some (.int .i64 a1) from rfl)
                have hfX2_1 := HX2.out.frozen 1
                have hxX2_2 := (HX2.out.cell 2).trans (show _ = some (.int .i64 a2) from rfl)
                have hfX2_2 := HX2.out.frozen 2
                have hxX2_3 := (HX2.out.cell 3).trans (show _ = some (.slice A3 l3.length c3) from rfl)
                have hfX2_3 := HX2.out.frozen 3
                (try clear hxX3_0 hfX3_0 hxX3_1 hfX3_1)
                have hxX3_0 := (HX3.out.cell 0).trans (show _ = some (.slice none 0 0) from rfl)
                have hfX3_0 := HX3.out.frozen 0
                have hxX3_1 := (HX3.out.cell 1).trans (show _ = some (.slice none 0 0) from rfl)
                have hfX3_1 := HX3.out.frozen 1
                refine hK.out _ _ ⟨hxX1_1, hxX2_3⟩ (fun hHeld => ?_)
                clear hK K
                refine norm_ (a' := ?_) ?_ ?_
                rotate_left
                · show Act.put _ (some 26) _ = _
                  simp only [Act.put, List.setIfInBounds_toArray, List.set_cons_zero, List.set_cons_succ, i64_w, i32_w]
                  rfl
                refine one_ (i := 8) (N := some 27) #[true, true, true, true, true, true, true, true, true, false, false, false] rfl rfl (one_of HT_.out (by kernel_rfl)) (by decide) (fun K hK => ?_)
                refine event_step (by rfl) (by first | (go_simp; exact ⟨rfl, rfl⟩) | (go_simp; done) | (go_simp; rfl)) ?_
                refine hK.out _ _ ⟨(pw_cell_below (below_alloc (Below.refl _ _) _) hxX1_1), (pw_cell_below (below_alloc (Below.refl _ _) _) hxX2_3)⟩ (fun hHeld => ?_)
                clear hK K
                refine norm_ (a' := ?_) ?_ ?_
                rotate_left
                · show Act.put _ (some 27) _ = _
                  simp only [Act.put, List.setIfInBounds_toArray, List.set_cons_zero, List.set_cons_succ, i64_w, i32_w]
                  rfl
                refine one_ (i := 9) (N := some 28) #[true, true, true, true, true, true, true, true, true, true, false, false] rfl rfl (one_of HT_.out (by kernel_rfl)) (by decide) (fun K hK => ?_)
                refine LM.append1_step (Kd.slice 5 (Kd.int .u8)) (w0 := w) (by rfl) (.tmp 22) (.tmp 27) 23 22 (.slice none 0 0) 24 rfl Try.underlying23 info22 rfl (by decide) (by omega) (.slice BF10 y1.length DF10) y1 y2 [.slice BF11 y2.length DF11] rfl rfl (by simp) HF10.out (LR.FK HF11.out) D_F10_F11.out HB.out ?aL_15 ?_
                (case aL_15 => have := LM4.out; omega)
                intro PF12 v_ w2 HL hb hk hR
                have D_0_F12 := Aside0.mk (apart_app hR H0.out.lt (apart_or D_0_F10.out D_0_F11.out))
                have D_X1_F12 := Aside0.mk (apart_app hR HX1.out.lt (apart_or D_X1_F10.out D_X1_F11.out))
                have D_X2_F12 := Aside0.mk (apart_app hR HX2.out.lt (apart_or D_X2_F10.out D_X2_F11.out))
                have D_X3_F12 := Aside0.mk (apart_app hR HX3.out.lt (apart_or D_X3_F10.out D_X3_F11.out))
                have RRF12 := Aside0.mk (show ∀ k_, PF12 k_ → (fun k_ => P0 k_ ∨ P1 k_) k_ ∨ w.heap.size ≤ k_ from rr_app hR HB.out.size (rr_or RRF10.out RRF11.out))
                replace H0 := Aside0.mk (H0.out.step hk D_0_F10.out)
                replace HX1 := Aside0.mk (HX1.out.step hk D_X1_F10.out)
                replace HX2 := Aside0.mk (HX2.out.step hk D_X2_F10.out)
                replace HX3 := Aside0.mk (HX3.out.step hk D_X3_F10.out)
                rw [← Ny3.out] at HL
                have HF12 := Aside0.mk HL
                replace HB := Aside0.mk hb
                clear hR HL hb hk
                clear HF10
                clear HF11
                obtain ⟨BF12, DF12, e_F12⟩ := HF12.out.val
                subst e_F12
                (try clear hxX1_0 hfX1_0 hxX1_1 hfX1_1)
                have hxX1_0 := (HX1.out.cell 0).trans (show _ = some (.slice B0 l0.length D0) from rfl)
                have hfX1_0 := HX1.out.frozen 0
                have hxX1_1 := (HX1.out.cell 1).trans (show _ = some (.slice B1 l1.length D1) from rfl)
                have hfX1_1 := HX1.out.frozen 1
                (try clear hxX2_0 hfX2_0 hxX2_1 hfX2_1 hxX2_2 hfX2_2 hxX2_3 hfX2_3)
                have hxX2_0 := (HX2.out.cell 0).trans (show _ = some (.int .i64 a0) from rfl)
                have hfX2_0 := HX2.out.frozen 0
                have hxX2_1 := (HX2.out.cell 1).trans (show _ = some (.int .i64 a1) from rfl)
                have hfX2_1 := HX2.out.frozen 1
                have hxX2_2 := (HX2.out.cell 2).trans (show _ = some (.int .i64 a2) from rfl)
                have hfX2_2 := HX2.out.frozen 2
                have hxX2_3 := (HX2.out.cell 3).trans (show _ = some (.slice A3 l3.length c3) from rfl)
                have hfX2_3 := HX2.out.frozen 3
                (try clear hxX3_0 hfX3_0 hxX3_1 hfX3_1)
                have hxX3_0 := (HX3.out.cell 0).trans (show _ = some (.slice none 0 0) from rfl)
                have hfX3_0 := HX3.out.frozen 0
                have hxX3_1 := (HX3.out.cell 1).trans (show _ = some (.slice none 0 0) from rfl)
                have hfX3_1 := HX3.out.frozen 1
                refine hK.out _ _ ⟨hxX1_1, hxX2_3⟩ (fun hHeld => ?_)
                clear hK K
                refine norm_ (a' := ?_) ?_ ?_
                rotate_left
                · show Act.put _ (some 28) _ = _
                  simp only [Act.put, List.setIfInBounds_toArray, List.set_cons_zero, List.set_cons_succ, i64_w, i32_w]
                  rfl
                refine pure_ (i := 10) (N := some 29) (v := ?_) (a' := ?_) #[true, true, true, true, true, true, true, true, true, true, true, false] rfl rfl (any_of HT_.out (by kernel_rfl)) (fun _ _ _ h => h) (Or.inl ⟨by rfl, ?_⟩) ?_ ?_
                rotate_left
                · intro w'
                  go_simp
                  with_reducible rfl
                rotate_left
                · simp only [Act.put, List.setIfInBounds_toArray, List.set_cons_zero, List.set_cons_succ, i64_w, i32_w]
                  rfl
                refine last_ (i := 11) (N := none) #[true, true, true, true, true, true, true, true, true, true, true, true] rfl rfl (one_of HT_.out (by kernel_rfl)) (by decide) (fun K hK => ?_)
                refine LB.stored_step HX1.out HB.out GEX1.out 1 [.slice BF12 y3.length DF12] (by rfl) rfl ?hr_16 ?_
                (case hr_16 => first | (go_simp; done) | (go_simp; rfl))
                intro w2 hx hk hb
                replace H0 := Aside0.mk (H0.out.step hk D_0_X1.out)
                replace HX2 := Aside0.mk (HX2.out.step hk (apart_symm D_X1_X2.out))
                replace HX3 := Aside0.mk (HX3.out.step hk (apart_symm D_X1_X3.out))
                replace HF12 := Aside0.mk (HF12.out.step hk (apart_symm D_X1_F12.out))
                replace HB := Aside0.mk hb
                replace HX1 := Aside0.mk (show LB w2 PX1 gX1 29 #[.slice B0 l0.length D0, .slice BF12 y3.length DF12] from hx)
                clear hk hx hb
                (try clear hxX1_0 hfX1_0 hxX1_1 hfX1_1)
                have hxX1_0 := (HX1.out.cell 0).trans (show _ = some (.slice B0 l0.length D0) from rfl)
                have hfX1_0 := HX1.out.frozen 0
                have hxX1_1 := (HX1.out.cell 1).trans (show _ = some (.slice BF12 y3.length DF12) from rfl)
                have hfX1_1 := HX1.out.frozen 1
                (try clear hxX2_0 hfX2_0 hxX2_1 hfX2_1 hxX2_2 hfX2_2 hxX2_3 hfX2_3)
                have hxX2_0 := (HX2.out.cell 0).trans (show _ = some (.int .i64 a0) from rfl)
                have hfX2_0 := HX2.out.frozen 0
                have hxX2_1 := (HX2.out.cell 1).trans (show _ = some (.int .i64 a1) from rfl)
                have hfX2_1 := HX2.out.frozen 1
                have hxX2_2 := (HX2.out.cell 2).trans (show _ = some (.int .i64 a2) from rfl)
                have hfX2_2 := HX2.out.frozen 2
                have hxX2_3 := (HX2.out.cell 3).trans (show _ = some (.slice A3 l3.length c3) from rfl)
                have hfX2_3 := HX2.out.frozen 3
                (try clear hxX3_0 hfX3_0 hxX3_1 hfX3_1)
                have hxX3_0 := (HX3.out.cell 0).trans (show _ = some (.slice none 0 0) from rfl)
                have hfX3_0 := HX3.out.frozen 0
                have hxX3_1 := (HX3.out.cell 1).trans (show _ = some (.slice none 0 0) from rfl)
                have hfX3_1 := HX3.out.frozen 1
                refine hK.out _ _ ?_
                clear hK K
                refine done_ (done_of HT_.out (by kernel_rfl)) ?_
                go_wp2_with (first | ((with_reducible refine gate_store (t := 29) (p := 4) rfl ?_); refine LB.stored HX3.out HB.out GEX3.out 0 [.slice B0 l0.length D0, .slice BF12 y3.length DF12] rfl (t := 29) (p := 4) rfl rfl ?hr_17 ?_; (case hr_17 => first | (go_simp; done) | (go_simp; rfl)); intro w2 hx hk hb; replace H0 := Aside0.mk (H0.out.step hk D_0_X3.out); replace HX1 := Aside0.mk (HX1.out.step hk D_X1_X3.out); replace HX2 := Aside0.mk (HX2.out.step hk D_X2_X3.out); replace HF12 := Aside0.mk (HF12.out.step hk (apart_symm D_X3_F12.out)); replace HB := Aside0.mk hb; replace HX3 := Aside0.mk (show LB w2 PX3 gX3 29 #[.slice B0 l0.length D0, .slice BF12 y3.length DF12] from hx); clear hk hx hb; (try clear hxX1_0 hfX1_0 hxX1_1 hfX1_1); have hxX1_0 := (HX1.out.cell 0).trans (show _ = some (.slice B0 l0.length D0) from rfl); have hfX1_0 := HX1.out.frozen 0; have hxX1_1 := (HX1.out.cell 1).trans (show _ = some (.slice BF12 y3.length DF12) from rfl); have hfX1_1 := HX1.out.frozen 1; (try clear hxX2_0 hfX2_0 hxX2_1 hfX2_1 hxX2_2 hfX2_2 hxX2_3 hfX2_3); have hxX2_0 := (HX2.out.cell 0).trans (show _ = some (.int .i64 a0) from rfl); have hfX2_0 := HX2.out.frozen 0; have hxX2_1 := (HX2.out.cell 1).trans (show _ = some (.int .i64 a1) from rfl); have hfX2_1 := HX2.out.frozen 1; have hxX2_2 := (HX2.out.cell 2).trans (show _ = some (.int .i64 a2) from rfl); have hfX2_2 := HX2.out.frozen 2; have hxX2_3 := (HX2.out.cell 3).trans (show _ = some (.slice A3 l3.length c3) from rfl); have hfX2_3 := HX2.out.frozen 3; (try clear hxX3_0 hfX3_0 hxX3_1 hfX3_1); have hxX3_0 := (HX3.out.cell 0).trans (show _ = some (.slice B0 l0.length D0) from rfl); have hfX3_0 := HX3.out.frozen 0; have hxX3_1 := (HX3.out.cell 1).trans (show _ = some (.slice BF12 y3.length DF12) from rfl); have hfX3_1 := HX3.out.frozen 1))
                refine bodyPost_ret (results_ct rfl _ _ gX3 29 #[.slice B0 l0.length D0, .slice BF12 y3.length DF12] (0, 0) _ rfl HX3.out.2.1 Try.underlying29 rfl (by kernel_rfl)) rfl ?_
                exact ⟨_, _, _, _, rfl, H0.out, HF12.out.toLN, fun _ hk => .inl (.inl hk), RRF12.out, D_0_F12.out, HB.out⟩
            · refine Kd.R_lit_step (Kd.int .u8) _ 5 ?hg_18 (N := 23) ?hd_18 (xs := ([] : List Int)) (inner := []) (ok := fun _ => True) (okp := fun _ => True) ?hr_18 ?hp_18 (fun _ hk => hk) trivial (Below.refl _ _) (Nat.le_refl _) (by simp) ?_
              (case hd_18 => rfl)
              (case hg_18 => exact (by rfl))
              (case hr_18 => first | (go_simp; done) | (go_simp; rfl))
              (case hp_18 => exact (Reps.none _ _))
              intro vF13 w2 hrF13 hb hg_ hnew_
              clear hg_ hnew_
              rw [← Nyb.out] at hrF13
              have hk := kept_below hb
              obtain ⟨PF13, hPF13, HLF13⟩ := LR.fresh rfl HB.out hrF13
              have HF13 := Aside0.mk HLF13
              clear HLF13 hrF13
              have D_0_F13 := Aside0.mk (new_apart H0.out.lt hPF13)
              have D_1_F13 := Aside0.mk (new_apart H1.out.lt hPF13)
              have D_X1_F13 := Aside0.mk (new_apart HX1.out.lt hPF13)
              have D_X2_F13 := Aside0.mk (new_apart HX2.out.lt hPF13)
              have D_X3_F13 := Aside0.mk (new_apart HX3.out.lt hPF13)
              have RRF13 := Aside0.mk (show ∀ k_, PF13 k_ → (fun k_ => P0 k_ ∨ P1 k_) k_ ∨ w.heap.size ≤ k_ from fun k_ h_ => .inr (Nat.le_trans HB.out.size (hPF13 k_ h_).1))
              replace H0 := Aside0.mk (H0.out.step hk no_S)
              replace H1 := Aside0.mk (H1.out.step hk no_S)
              replace HX1 := Aside0.mk (HX1.out.step hk no_S)
              replace HX2 := Aside0.mk (HX2.out.step hk no_S)
              replace HX3 := Aside0.mk (HX3.out.step hk no_S)
              clear hPF13
              obtain ⟨BF13, DF13, e_F13⟩ := HF13.out.val
              subst e_F13
              replace HB := Aside0.mk (below_step HB.out hb)
              clear hb hk
              (try clear hxX1_0 hfX1_0 hxX1_1 hfX1_1)
              have hxX1_0 := (HX1.out.cell 0).trans (show _ = some (.slice B0 l0.length D0) from rfl)
              have hfX1_0 := HX1.out.frozen 0
              have hxX1_1 := (HX1.out.cell 1).trans (show _ = some (.slice B1 l1.length D1) from rfl)
              have hfX1_1 := HX1.out.frozen 1
              (try clear hxX2_0 hfX2_0 hxX2_1 hfX2_1 hxX2_2 hfX2_2 hxX2_3 hfX2_3)
              have hxX2_0 := (HX2.out.cell 0).trans (show _ = some (.int .i64 a0) from rfl)
              have hfX2_0 := HX2.out.frozen 0
              have hxX2_1 := (HX2.out.cell 1).trans (show _ = some (.int .i64 a1) from rfl)
              have hfX2_1 := HX2.out.frozen 1
              have hxX2_2 := (HX2.out.cell 2).trans (show _ = some (.int .i64 a2) from rfl)
              have hfX2_2 := HX2.out.frozen 2
              have hxX2_3 := (HX2.out.cell 3).trans (show _ = some (.slice A3 l3.length c3) from rfl)
              have hfX2_3 := HX2.out.frozen 3
              (try clear hxX3_0 hfX3_0 hxX3_1 hfX3_1)
              have hxX3_0 := (HX3.out.cell 0).trans (show _ = some (.slice none 0 0) from rfl)
              have hfX3_0 := HX3.out.frozen 0
              have hxX3_1 := (HX3.out.cell 1).trans (show _ = some (.slice none 0 0) from rfl)
              have hfX3_1 := HX3.out.frozen 1
              refine hK.out _ _ ⟨hxX1_1, hxX2_3⟩ (fun hHeld => ?_)
              clear hK K
              refine norm_ (a' := ?_) ?_ ?_
              rotate_left
              · show Act.put _ (some 23) _ = _
                simp only [Act.put, List.setIfInBounds_toArray, List.set_cons_zero, List.set_cons_succ, i64_w, i32_w]
                rfl
              refine one_ (i := 0) (N := some 19) #[true, true, true, false, true, true, true, false, false, false, false, false] rfl rfl (one_of HT_.out (by kernel_rfl)) (by decide) (fun K hK => ?_)
              refine Kd.S_lit_step (Kd.slice 5 (Kd.int .u8)) _ 22 ?hg_19 (N := 19) ?hd_19 (xs := ([] : List (List Int))) (inner := []) (ok := fun _ => True) (okp := fun _ => True) ?hr_19 ?hp_19 (fun _ hk => hk) trivial (Below.refl _ _) (Nat.le_refl _) (by simp) ?_
              (case hd_19 => rfl)
              (case hg_19 => exact (by rfl))
              (case hr_19 => first | (go_simp; done) | (go_simp; rfl))
              (case hp_19 => exact (Reps.none _ _))
              intro vF14 w2 hrF14 hb hg_ hnew_
              clear hg_ hnew_
              rw [← Nya.out] at hrF14
              have hk := kept_below hb
              obtain ⟨PF14, hPF14, HLF14⟩ := LS.fresh HB.out hrF14
              have HF14 := Aside0.mk HLF14
              clear HLF14 hrF14
              have D_0_F14 := Aside0.mk (new_apart H0.out.lt hPF14)
              have D_1_F14 := Aside0.mk (new_apart H1.out.lt hPF14)
              have D_X1_F14 := Aside0.mk (new_apart HX1.out.lt hPF14)
              have D_X2_F14 := Aside0.mk (new_apart HX2.out.lt hPF14)
              have D_X3_F14 := Aside0.mk (new_apart HX3.out.lt hPF14)
              have D_F13_F14 := Aside0.mk (new_apart HF13.out.lt hPF14)
              have RRF14 := Aside0.mk (show ∀ k_, PF14 k_ → (fun k_ => P0 k_ ∨ P1 k_) k_ ∨ w.heap.size ≤ k_ from fun k_ h_ => .inr (Nat.le_trans HB.out.size (hPF14 k_ h_).1))
              replace H0 := Aside0.mk (H0.out.step hk no_S)
              replace H1 := Aside0.mk (H1.out.step hk no_S)
              replace HX1 := Aside0.mk (HX1.out.step hk no_S)
              replace HX2 := Aside0.mk (HX2.out.step hk no_S)
              replace HX3 := Aside0.mk (HX3.out.step hk no_S)
              replace HF13 := Aside0.mk (HF13.out.step hk no_S)
              clear hPF14
              obtain ⟨BF14, DF14, e_F14⟩ := HF14.out.val
              subst e_F14
              replace HB := Aside0.mk (below_step HB.out hb)
              clear hb hk
              (try clear hxX1_0 hfX1_0 hxX1_1 hfX1_1)
              have hxX1_0 := (HX1.out.cell 0).trans (show _ = some (.slice B0 l0.length D0) from rfl)
              have hfX1_0 := HX1.out.frozen 0
              have hxX1_1 := (HX1.out.cell 1).trans (show _ = some (.slice B1 l1.length D1) from rfl)
              have hfX1_1 := HX1.out.frozen 1
              (try clear hxX2_0 hfX2_0 hxX2_1 hfX2_1 hxX2_2 hfX2_2 hxX2_3 hfX2_3)
              have hxX2_0 := (HX2.out.cell 0).trans (show _ = some (.int .i64 a0) from rfl)
              have hfX2_0 := HX2.out.frozen 0
              have hxX2_1 := (HX2.out.cell 1).trans (show _ = some (.int .i64 a1) from rfl)
              have hfX2_1 := HX2.out.frozen 1
              have hxX2_2 := (HX2.out.cell 2).trans (show _ = some (.int .i64 a2) from rfl)
              have hfX2_2 := HX2.out.frozen 2
              have hxX2_3 := (HX2.out.cell 3).trans (show _ = some (.slice A3 l3.length c3) from rfl)
              have hfX2_3 := HX2.out.frozen 3
              (try clear hxX3_0 hfX3_0 hxX3_1 hfX3_1)
              have hxX3_0 := (HX3.out.cell 0).trans (show _ = some (.slice none 0 0) from rfl)
              have hfX3_0 := HX3.out.frozen 0
              have hxX3_1 := (HX3.out.cell 1).trans (show _ = some (.slice none 0 0) from rfl)
              have hfX3_1 := HX3.out.frozen 1
              replace HF14 := Aside0.mk HF14.out.toLM
              refine hK.out _ _ ⟨hxX1_1, hxX2_3⟩ (fun hHeld => ?_)
              clear hK K
              refine norm_ (a' := ?_) ?_ ?_
              rotate_left
              · show Act.put _ (some 19) _ = _
                simp only [Act.put, List.setIfInBounds_toArray, List.set_cons_zero, List.set_cons_succ, i64_w, i32_w]
                rfl
              refine one_ (i := 3) (N := some 22) #[true, true, true, true, true, true, true, false, false, false, false, false] rfl rfl (one_of HT_.out (by kernel_rfl)) (by decide) (fun K hK => ?_)
              refine LM.append_rows_step (Kd.slice 5 (Kd.int .u8)) (w0 := w) (by rfl) (.tmp 19) (.tmp 21) 23 22 (.slice none 0 0) 24 rfl Try.underlying23 info22 rfl (by decide) (by omega) (.slice BF14 ya.length DF14) ya l1 _ _ _ rfl rfl HF14.out H1.out (apart_symm D_1_F14.out) HB.out ?aL_20 ?_
              (case aL_20 => have := LM2.out; omega)
              intro PF15 v_ w2 HL hb hk hR
              have D_0_F15 := Aside0.mk (apart_app hR H0.out.lt (apart_or D_0_F14.out D_0_1.out))
              have D_X1_F15 := Aside0.mk (apart_app hR HX1.out.lt (apart_or D_X1_F14.out (apart_symm D_1_X1.out)))
              have D_X2_F15 := Aside0.mk (apart_app hR HX2.out.lt (apart_or D_X2_F14.out (apart_symm D_1_X2.out)))
              have D_X3_F15 := Aside0.mk (apart_app hR HX3.out.lt (apart_or D_X3_F14.out (apart_symm D_1_X3.out)))
              have D_F13_F15 := Aside0.mk (apart_app hR HF13.out.lt (apart_or D_F13_F14.out (apart_symm D_1_F13.out)))
              have RRF15 := Aside0.mk (show ∀ k_, PF15 k_ → (fun k_ => P0 k_ ∨ P1 k_) k_ ∨ w.heap.size ≤ k_ from rr_app hR HB.out.size (rr_or RRF14.out RR1.out))
              replace H0 := Aside0.mk (H0.out.step hk D_0_F14.out)
              replace HX1 := Aside0.mk (HX1.out.step hk D_X1_F14.out)
              replace HX2 := Aside0.mk (HX2.out.step hk D_X2_F14.out)
              replace HX3 := Aside0.mk (HX3.out.step hk D_X3_F14.out)
              replace HF13 := Aside0.mk (HF13.out.step hk D_F13_F14.out)
              rw [← Ny1.out] at HL
              have HF15 := Aside0.mk HL
              replace HB := Aside0.mk hb
              clear hR HL hb hk
              clear HF14
              clear H1
              obtain ⟨BF15, DF15, e_F15⟩ := HF15.out.val
              subst e_F15
              (try clear hxX1_0 hfX1_0 hxX1_1 hfX1_1)
              have hxX1_0 := (HX1.out.cell 0).trans (show _ = some (.slice B0 l0.length D0) from rfl)
              have hfX1_0 := HX1.out.frozen 0
              have hxX1_1 := (HX1.out.cell 1).trans (show _ = some (.slice B1 l1.length D1) from rfl)
              have hfX1_1 := HX1.out.frozen 1
              (try clear hxX2_0 hfX2_0 hxX2_1 hfX2_1 hxX2_2 hfX2_2 hxX2_3 hfX2_3)
              have hxX2_0 := (HX2.out.cell 0).trans (show _ = some (.int .i64 a0) from rfl)
              have hfX2_0 := HX2.out.frozen 0
              have hxX2_1 := (HX2.out.cell 1).trans (show _ = some (.int .i64 a1) from rfl)
              have hfX2_1 := HX2.out.frozen 1
              have hxX2_2 := (HX2.out.cell 2).trans (show _ = some (.int .i64 a2) from rfl)
              have hfX2_2 := HX2.out.frozen 2
              have hxX2_3 := (HX2.out.cell 3).trans (show _ = some (.slice A3 l3.length c3) from rfl)
              have hfX2_3 := HX2.out.frozen 3
              (try clear hxX3_0 hfX3_0 hxX3_1 hfX3_1)
              have hxX3_0 := (HX3.out.cell 0).trans (show _ = some (.slice none 0 0) from rfl)
              have hfX3_0 := HX3.out.frozen 0
              have hxX3_1 := (HX3.out.cell 1).trans (show _ = some (.slice none 0 0) from rfl)
              have hfX3_1 := HX3.out.frozen 1
              refine hK.out _ _ ⟨hxX1_1, hxX2_3⟩ (fun hHeld => ?_)
              clear hK K
              refine norm_ (a' := ?_) ?_ ?_
              rotate_left
              · show Act.put _ (some 22) _ = _
                simp only [Act.put, List.setIfInBounds_toArray, List.set_cons_zero, List.set_cons_succ, i64_w, i32_w]
                rfl
              refine one_ (i := 7) (N := some 26) #[true, true, true, true, true, true, true, true, false, false, false, false] rfl rfl (one_of HT_.out (by kernel_rfl)) (by decide) (fun K hK => ?_)
              refine LR.append_read_step (Kd.int .u8) (w0 := w) (by rfl) (.tmp 23) (.tmp 25) 22 5 (.int .u8 0) 1 rfl Try.underlying22 info5 rfl (by decide) (by omega) (.slice BF13 yb.length DF13) yb l3 _ _ _ rfl rfl (fun _ _ h_ => h_) HF13.out (Kd.C_below HR3.out HB.out) HB.out ?aL_21 ?_
              (case aL_21 => have := LM3.out; omega)
              intro PF16 v_ w2 HL hb hk hR
              have D_0_F16 := Aside0.mk (apart_app hR H0.out.lt D_0_F13.out)
              have D_X1_F16 := Aside0.mk (apart_app hR HX1.out.lt D_X1_F13.out)
              have D_X2_F16 := Aside0.mk (apart_app hR HX2.out.lt D_X2_F13.out)
              have D_X3_F16 := Aside0.mk (apart_app hR HX3.out.lt D_X3_F13.out)
              have D_F15_F16 := Aside0.mk (apart_app hR HF15.out.lt (apart_symm D_F13_F15.out))
              have RRF16 := Aside0.mk (show ∀ k_, PF16 k_ → (fun k_ => P0 k_ ∨ P1 k_) k_ ∨ w.heap.size ≤ k_ from rr_app hR HB.out.size RRF13.out)
              replace H0 := Aside0.mk (H0.out.step hk D_0_F13.out)
              replace HX1 := Aside0.mk (HX1.out.step hk D_X1_F13.out)
              replace HX2 := Aside0.mk (HX2.out.step hk D_X2_F13.out)
              replace HX3 := Aside0.mk (HX3.out.step hk D_X3_F13.out)
              replace HF15 := Aside0.mk (HF15.out.step hk (apart_symm D_F13_F15.out))
              rw [← Ny2.out] at HL
              have HF16 := Aside0.mk HL
              replace HB := Aside0.mk hb
              clear hR HL hb hk
              clear HF13
              obtain ⟨BF16, DF16, e_F16⟩ := HF16.out.val
              subst e_F16
              (try clear hxX1_0 hfX1_0 hxX1_1 hfX1_1)
              have hxX1_0 := (HX1.out.cell 0).trans (show _ = some (.slice B0 l0.length D0) from rfl)
              have hfX1_0 := HX1.out.frozen 0
              have hxX1_1 := (HX1.out.cell 1).trans (show _ = some (.slice B1 l1.length D1) from rfl)
              have hfX1_1 := HX1.out.frozen 1
              (try clear hxX2_0 hfX2_0 hxX2_1 hfX2_1 hxX2_2 hfX2_2 hxX2_3 hfX2_3)
              have hxX2_0 := (HX2.out.cell 0).trans (show _ = some (.int .i64 a0) from rfl)
              have hfX2_0 := HX2.out.frozen 0
              have hxX2_1 := (HX2.out.cell 1).trans (show _ = some (.int .i64 a1) from rfl)
              have hfX2_1 := HX2.out.frozen 1
              have hxX2_2 := (HX2.out.cell 2).trans (show _ = some (.int .i64 a2) from rfl)
              have hfX2_2 := HX2.out.frozen 2
              have hxX2_3 := (HX2.out.cell 3).trans (show _ = some (.slice A3 l3.length c3) from rfl)
              have hfX2_3 := HX2.out.frozen 3
              (try clear hxX3_0 hfX3_0 hxX3_1 hfX3_1)
              have hxX3_0 := (HX3.out.cell 0).trans (show _ = some (.slice none 0 0) from rfl)
              have hfX3_0 := HX3.out.frozen 0
              have hxX3_1 := (HX3.out.cell 1).trans (show _ = some (.slice none 0 0) from rfl)
              have hfX3_1 := HX3.out.frozen 1
              refine hK.out _ _ ⟨hxX1_1, hxX2_3⟩ (fun hHeld => ?_)
              clear hK K
              refine norm_ (a' := ?_) ?_ ?_
              rotate_left
              · show Act.put _ (some 26) _ = _
                simp only [Act.put, List.setIfInBounds_toArray, List.set_cons_zero, List.set_cons_succ, i64_w, i32_w]
                rfl
              refine one_ (i := 8) (N := some 27) #[true, true, true, true, true, true, true, true, true, false, false, false] rfl rfl (one_of HT_.out (by kernel_rfl)) (by decide) (fun K hK => ?_)
              refine event_step (by rfl) (by first | (go_simp; exact ⟨rfl, rfl⟩) | (go_simp; done) | (go_simp; rfl)) ?_
              refine hK.out _ _ ⟨(pw_cell_below (below_alloc (Below.refl _ _) _) hxX1_1), (pw_cell_below (below_alloc (Below.refl _ _) _) hxX2_3)⟩ (fun hHeld => ?_)
              clear hK K
              refine norm_ (a' := ?_) ?_ ?_
              rotate_left
              · show Act.put _ (some 27) _ = _
                simp only [Act.put, List.setIfInBounds_toArray, List.set_cons_zero, List.set_cons_succ, i64_w, i32_w]
                rfl
              refine one_ (i := 9) (N := some 28) #[true, true, true, true, true, true, true, true, true, true, false, false] rfl rfl (one_of HT_.out (by kernel_rfl)) (by decide) (fun K hK => ?_)
              refine LM.append1_step (Kd.slice 5 (Kd.int .u8)) (w0 := w) (by rfl) (.tmp 22) (.tmp 27) 23 22 (.slice none 0 0) 24 rfl Try.underlying23 info22 rfl (by decide) (by omega) (.slice BF15 y1.length DF15) y1 y2 [.slice BF16 y2.length DF16] rfl rfl (by simp) HF15.out (LR.FK HF16.out) D_F15_F16.out HB.out ?aL_22 ?_
              (case aL_22 => have := LM4.out; omega)
              intro PF17 v_ w2 HL hb hk hR
              have D_0_F17 := Aside0.mk (apart_app hR H0.out.lt (apart_or D_0_F15.out D_0_F16.out))
              have D_X1_F17 := Aside0.mk (apart_app hR HX1.out.lt (apart_or D_X1_F15.out D_X1_F16.out))
              have D_X2_F17 := Aside0.mk (apart_app hR HX2.out.lt (apart_or D_X2_F15.out D_X2_F16.out))
              have D_X3_F17 := Aside0.mk (apart_app hR HX3.out.lt (apart_or D_X3_F15.out D_X3_F16.out))
              have RRF17 := Aside0.mk (show ∀ k_, PF17 k_ → (fun k_ => P0 k_ ∨ P1 k_) k_ ∨ w.heap.size ≤ k_ from rr_app hR HB.out.size (rr_or RRF15.out RRF16.out))
              replace H0 := Aside0.mk (H0.out.step hk D_0_F15.out)
              replace HX1 := Aside0.mk (HX1.out.step hk D_X1_F15.out)
              replace HX2 := Aside0.mk (HX2.out.step hk D_X2_F15.out)
              replace HX3 := Aside0.mk (HX3.out.step hk D_X3_F15.out)
              rw [← Ny3.out] at HL
              have HF17 := Aside0.mk HL
              replace HB := Aside0.mk hb
              clear hR HL hb hk
              clear HF15
              clear HF16
              obtain ⟨BF17, DF17, e_F17⟩ := HF17.out.val
              subst e_F17
              (try clear hxX1_0 hfX1_0 hxX1_1 hfX1_1)
              have hxX1_0 := (HX1.out.cell 0).trans (show _ = some (.slice B0 l0.length D0) from rfl)
              have hfX1_0 := HX1.out.frozen 0
              have hxX1_1 := (HX1.out.cell 1).trans (show _ = some (.slice B1 l1.length D1) from rfl)
              have hfX1_1 := HX1.out.frozen 1
              (try clear hxX2_0 hfX2_0 hxX2_1 hfX2_1 hxX2_2 hfX2_2 hxX2_3 hfX2_3)
              have hxX2_0 := (HX2.out.cell 0).trans (show _ = some (.int .i64 a0) from rfl)
              have hfX2_0 := HX2.out.frozen 0
              have hxX2_1 := (HX2.out.cell 1).trans (show _ = some (.int .i64 a1) from rfl)
              have hfX2_1 := HX2.out.frozen 1
              have hxX2_2 := (HX2.out.cell 2).trans (show _ = some (.int .i64 a2) from rfl)
              have hfX2_2 := HX2.out.frozen 2
              have hxX2_3 := (HX2.out.cell 3).trans (show _ = some (.slice A3 l3.length c3) from rfl)
              have hfX2_3 := HX2.out.frozen 3
              (try clear hxX3_0 hfX3_0 hxX3_1 hfX3_1)
              have hxX3_0 := (HX3.out.cell 0).trans (show _ = some (.slice none 0 0) from rfl)
              have hfX3_0 := HX3.out.frozen 0
              have hxX3_1 := (HX3.out.cell 1).trans (show _ = some (.slice none 0 0) from rfl)
              have hfX3_1 := HX3.out.frozen 1
              refine hK.out _ _ ⟨hxX1_1, hxX2_3⟩ (fun hHeld => ?_)
              clear hK K
              refine norm_ (a' := ?_) ?_ ?_
              rotate_left
              · show Act.put _ (some 28) _ = _
                simp only [Act.put, List.setIfInBounds_toArray, List.set_cons_zero, List.set_cons_succ, i64_w, i32_w]
                rfl
              refine pure_ (i := 10) (N := some 29) (v := ?_) (a' := ?_) #[true, true, true, true, true, true, true, true, true, true, true, false] rfl rfl (any_of HT_.out (by kernel_rfl)) (fun _ _ _ h => h) (Or.inl ⟨by rfl, ?_⟩) ?_ ?_
              rotate_left
              · intro w'
                go_simp
                with_reducible rfl
              rotate_left
              · simp only [Act.put, List.setIfInBounds_toArray, List.set_cons_zero, List.set_cons_succ, i64_w, i32_w]
                rfl
              refine last_ (i := 11) (N := none) #[true, true, true, true, true, true, true, true, true, true, true, true] rfl rfl (one_of HT_.out (by kernel_rfl)) (by decide) (fun K hK => ?_)
              refine LB.stored_step HX1.out HB.out GEX1.out 1 [.slice BF17 y3.length DF17] (by rfl) rfl ?hr_23 ?_
              (case hr_23 => first | (go_simp; done) | (go_simp; rfl))
              intro w2 hx hk hb
              replace H0 := Aside0.mk (H0.out.step hk D_0_X1.out)
              replace HX2 := Aside0.mk (HX2.out.step hk (apart_symm D_X1_X2.out))
              replace HX3 := Aside0.mk (HX3.out.step hk (apart_symm D_X1_X3.out))
              replace HF17 := Aside0.mk (HF17.out.step hk (apart_symm D_X1_F17.out))
              replace HB := Aside0.mk hb
              replace HX1 := Aside0.mk (show LB w2 PX1 gX1 29 #[.slice B0 l0.length D0, .slice BF17 y3.length DF17] from hx)
              clear hk hx hb
              (try clear hxX1_0 hfX1_0 hxX1_1 hfX1_1)
              have hxX1_0 := (HX1.out.cell 0).trans (show _ = some (.slice B0 l0.length D0) from rfl)
              have hfX1_0 := HX1.out.frozen 0
              have hxX1_1 := (HX1.out.cell 1).trans (show _ = some (.slice BF17 y3.length DF17) from rfl)
              have hfX1_1 := HX1.out.frozen 1
              (try clear hxX2_0 hfX2_0 hxX2_1 hfX2_1 hxX2_2 hfX2_2 hxX2_3 hfX2_3)
              have hxX2_0 := (HX2.out.cell 0).trans (show _ = some (.int .i64 a0) from rfl)
              have hfX2_0 := HX2.out.frozen 0
              have hxX2_1 := (HX2.out.cell 1).trans (show _ = some (.int .i64 a1) from rfl)
              have hfX2_1 := HX2.out.frozen 1
              have hxX2_2 := (HX2.out.cell 2).trans (show _ = some (.int .i64 a2) from rfl)
              have hfX2_2 := HX2.out.frozen 2
              have hxX2_3 := (HX2.out.cell 3).trans (show _ = some (.slice A3 l3.length c3) from rfl)
              have hfX2_3 := HX2.out.frozen 3
              (try clear hxX3_0 hfX3_0 hxX3_1 hfX3_1)
              have hxX3_0 := (HX3.out.cell 0).trans (show _ = some (.slice none 0 0) from rfl)
              have hfX3_0 := HX3.out.frozen 0
              have hxX3_1 := (HX3.out.cell 1).trans (show _ = some (.slice none 0 0) from rfl)
              have hfX3_1 := HX3.out.frozen 1
              refine hK.out _ _ ?_
              clear hK K
              refine done_ (done_of HT_.out (by kernel_rfl)) ?_
              go_wp2_with (first | ((with_reducible refine gate_store (t := 29) (p := 4) rfl ?_); refine LB.stored HX3.out HB.out GEX3.out 0 [.slice B0 l0.length D0, .slice BF17 y3.length DF17] rfl (t := 29) (p := 4) rfl rfl ?hr_24 ?_; (case hr_24 => first | (go_simp; done) | (go_simp; rfl)); intro w2 hx hk hb; replace H0 := Aside0.mk (H0.out.step hk D_0_X3.out); replace HX1 := Aside0.mk (HX1.out.step hk D_X1_X3.out); replace HX2 := Aside0.mk (HX2.out.step hk D_X2_X3.out); replace HF17 := Aside0.mk (HF17.out.step hk (apart_symm D_X3_F17.out)); replace HB := Aside0.mk hb; replace HX3 := Aside0.mk (show LB w2 PX3 gX3 29 #[.slice B0 l0.length D0, .slice BF17 y3.length DF17] from hx); clear hk hx hb; (try clear hxX1_0 hfX1_0 hxX1_1 hfX1_1); have hxX1_0 := (HX1.out.cell 0).trans (show _ = some (.slice B0 l0.length D0) from rfl); have hfX1_0 := HX1.out.frozen 0; have hxX1_1 := (HX1.out.cell 1).trans (show _ = some (.slice BF17 y3.length DF17) from rfl); have hfX1_1 := HX1.out.frozen 1; (try clear hxX2_0 hfX2_0 hxX2_1 hfX2_1 hxX2_2 hfX2_2 hxX2_3 hfX2_3); have hxX2_0 := (HX2.out.cell 0).trans (show _ = some (.int .i64 a0) from rfl); have hfX2_0 := HX2.out.frozen 0; have hxX2_1 := (HX2.out.cell 1).trans (show _ = some (.int .i64 a1) from rfl); have hfX2_1 := HX2.out.frozen 1; have hxX2_2 := (HX2.out.cell 2).trans (show _ = some (.int .i64 a2) from rfl); have hfX2_2 := HX2.out.frozen 2; have hxX2_3 := (HX2.out.cell 3).trans (show _ = some (.slice A3 l3.length c3) from rfl); have hfX2_3 := HX2.out.frozen 3; (try clear hxX3_0 hfX3_0 hxX3_1 hfX3_1); have hxX3_0 := (HX3.out.cell 0).trans (show _ = some (.slice B0 l0.length D0) from rfl); have hfX3_0 := HX3.out.frozen 0; have hxX3_1 := (HX3.out.cell 1).trans (show _ = some (.slice BF17 y3.length DF17) from rfl); have hfX3_1 := HX3.out.frozen 1))
              refine bodyPost_ret (results_ct rfl _ _ gX3 29 #[.slice B0 l0.length D0, .slice BF17 y3.length DF17] (0, 0) _ rfl HX3.out.2.1 Try.underlying29 rfl (by kernel_rfl)) rfl ?_
              exact ⟨_, _, _, _, rfl, H0.out, HF17.out.toLN, fun _ hk => .inl (.inl hk), RRF17.out, D_0_F17.out, HB.out⟩
          · rw [if_neg c4] at h
            exact absurd h (by simp)
        · rw [if_neg c3] at h
          exact absurd h (by simp)
      · rw [if_neg c2] at h
        exact absurd h (by simp)
  rw [if_neg k1] at h
  have k1b : (a0 == 1) = false := beq_eq_false_iff_ne.mpr k1
  by_cases k2 : a0 = 2
  · rw [if_pos k2] at h
    have k2b : (a0 == 2) = true := beq_iff_eq.mpr k2
    clear k1 k2
    obtain ⟨t1, e1, h⟩ := Option.bind_eq_some_iff.1 h
    have E1 := Aside0.mk e1
    clear e1
    simp only [Option.some.injEq, Prod.mk.injEq] at h
    obtain ⟨rfl, rfl, rfl⟩ := h
    go_enter Try.func75, Try.ntmps75
    go_wp2_with (first | ((with_reducible refine gate_dst (N := 2) rfl ?_); refine box_event ?hg_1 (N := 2) ?hd_1 (cs := #[.slice B0 l0.length D0, .slice B1 l1.length D1]) (t := 29) ?hr_1 ?_; (case hd_1 => rfl); (case hg_1 => rfl); (case hr_1 => first | (go_simp; done) | (go_simp; rfl)); intro gX1 hg w2 hbox hb; have hk := kept_below hb; obtain ⟨PX1, hPX1, HLX1⟩ := LB.fresh hg hbox; have HX1 := Aside0.mk HLX1; clear HLX1; have GEX1 := Aside0.mk (show w.heap.size ≤ gX1 from (by rw [hg]; exact HB.out.size)); have D_0_X1 := Aside0.mk (new_apart H0.out.lt hPX1); have D_1_X1 := Aside0.mk (new_apart H1.out.lt hPX1); have RRX1 := Aside0.mk (show ∀ k_, PX1 k_ → (fun k_ => P0 k_ ∨ P1 k_) k_ ∨ w.heap.size ≤ k_ from fun k_ h_ => .inr (Nat.le_trans HB.out.size (hPX1 k_ h_).1)); replace H0 := Aside0.mk (H0.out.step hk no_S); replace H1 := Aside0.mk (H1.out.step hk no_S); replace HB := Aside0.mk (below_step HB.out hb); clear hb hk hbox hg hPX1; (try clear hxX1_0 hfX1_0 hxX1_1 hfX1_1); have hxX1_0 := (HX1.out.cell 0).trans (show _ = some (.slice B0 l0.length D0) from rfl); have hfX1_0 := HX1.out.frozen 0; have hxX1_1 := (HX1.out.cell 1).trans (show _ = some (.slice B1 l1.length D1) from rfl); have hfX1_1 := HX1.out.frozen 1) | ((with_reducible refine gate_dst (N := 3) rfl ?_); refine box_event ?hg_2 (N := 3) ?hd_2 (cs := #[.int .i64 a0, .int .i64 a1, .int .i64 a2, .slice A3 l3.length c3]) (t := 100) ?hr_2 ?_; (case hd_2 => rfl); (case hg_2 => rfl); (case hr_2 => first | (go_simp; done) | (go_simp; rfl)); intro gX2 hg w2 hbox hb; have hk := kept_below hb; obtain ⟨PX2, hPX2, HLX2⟩ := LB.fresh hg hbox; have HX2 := Aside0.mk HLX2; clear HLX2; have GEX2 := Aside0.mk (show w.heap.size ≤ gX2 from (by rw [hg]; exact HB.out.size)); have D_0_X2 := Aside0.mk (new_apart H0.out.lt hPX2); have D_1_X2 := Aside0.mk (new_apart H1.out.lt hPX2); have D_X1_X2 := Aside0.mk (new_apart HX1.out.lt hPX2); have RRX2 := Aside0.mk (show ∀ k_, PX2 k_ → (fun k_ => P0 k_ ∨ P1 k_) k_ ∨ w.heap.size ≤ k_ from fun k_ h_ => .inr (Nat.le_trans HB.out.size (hPX2 k_ h_).1)); replace H0 := Aside0.mk (H0.out.step hk no_S); replace H1 := Aside0.mk (H1.out.step hk no_S); replace HX1 := Aside0.mk (HX1.out.step hk no_S); replace HB := Aside0.mk (below_step HB.out hb); clear hb hk hbox hg hPX2; (try clear hxX1_0 hfX1_0 hxX1_1 hfX1_1); have hxX1_0 := (HX1.out.cell 0).trans (show _ = some (.slice B0 l0.length D0) from rfl); have hfX1_0 := HX1.out.frozen 0; have hxX1_1 := (HX1.out.cell 1).trans (show _ = some (.slice B1 l1.length D1) from rfl); have hfX1_1 := HX1.out.frozen 1; (try clear hxX2_0 hfX2_0 hxX2_1 hfX2_1 hxX2_2 hfX2_2 hxX2_3 hfX2_3); have hxX2_0 := (HX2.out.cell 0).trans (show _ = some (.int .i64 a0) from rfl); have hfX2_0 := HX2.out.frozen 0; have hxX2_1 := (HX2.out.cell 1).trans (show _ = some (.int .i64 a1) from rfl); have hfX2_1 := HX2.out.frozen 1; have hxX2_2 := (HX2.out.cell 2).trans (show _ = some (.int .i64 a2) from rfl); have hfX2_2 := HX2.out.frozen 2; have hxX2_3 := (HX2.out.cell 3).trans (show _ = some (.slice A3 l3.length c3) from rfl); have hfX2_3 := HX2.out.frozen 3) | ((with_reducible refine gate_dst (N := 4) rfl ?_); refine box_event ?hg_3 (N := 4) ?hd_3 (cs := #[.slice none 0 0, .slice none 0 0]) (t := 29) ?hr_3 ?_; (case hd_3 => rfl); (case hg_3 => rfl); (case hr_3 => first | (go_simp; done) | (go_simp; rfl)); intro gX3 hg w2 hbox hb; have hk := kept_below hb; obtain ⟨PX3, hPX3, HLX3⟩ := LB.fresh hg hbox; have HX3 := Aside0.mk HLX3; clear HLX3; have GEX3 := Aside0.mk (show w.heap.size ≤ gX3 from (by rw [hg]; exact HB.out.size)); have D_0_X3 := Aside0.mk (new_apart H0.out.lt hPX3); have D_1_X3 := Aside0.mk (new_apart H1.out.lt hPX3); have D_X1_X3 := Aside0.mk (new_apart HX1.out.lt hPX3); have D_X2_X3 := Aside0.mk (new_apart HX2.out.lt hPX3); have RRX3 := Aside0.mk (show ∀ k_, PX3 k_ → (fun k_ => P0 k_ ∨ P1 k_) k_ ∨ w.heap.size ≤ k_ from fun k_ h_ => .inr (Nat.le_trans HB.out.size (hPX3 k_ h_).1)); replace H0 := Aside0.mk (H0.out.step hk no_S); replace H1 := Aside0.mk (H1.out.step hk no_S); replace HX1 := Aside0.mk (HX1.out.step hk no_S); replace HX2 := Aside0.mk (HX2.out.step hk no_S); replace HB := Aside0.mk (below_step HB.out hb); clear hb hk hbox hg hPX3; (try clear hxX1_0 hfX1_0 hxX1_1 hfX1_1); have hxX1_0 := (HX1.out.cell 0).trans (show _ = some (.slice B0 l0.length D0) from rfl); have hfX1_0 := HX1.out.frozen 0; have hxX1_1 := (HX1.out.cell 1).trans (show _ = some (.slice B1 l1.length D1) from rfl); have hfX1_1 := HX1.out.frozen 1; (try clear hxX2_0 hfX2_0 hxX2_1 hfX2_1 hxX2_2 hfX2_2 hxX2_3 hfX2_3); have hxX2_0 := (HX2.out.cell 0).trans (show _ = some (.int .i64 a0) from rfl); have hfX2_0 := HX2.out.frozen 0; have hxX2_1 := (HX2.out.cell 1).trans (show _ = some (.int .i64 a1) from rfl); have hfX2_1 := HX2.out.frozen 1; have hxX2_2 := (HX2.out.cell 2).trans (show _ = some (.int .i64 a2) from rfl); have hfX2_2 := HX2.out.frozen 2; have hxX2_3 := (HX2.out.cell 3).trans (show _ = some (.slice A3 l3.length c3) from rfl); have hfX2_3 := HX2.out.frozen 3; (try clear hxX3_0 hfX3_0 hxX3_1 hfX3_1); have hxX3_0 := (HX3.out.cell 0).trans (show _ = some (.slice none 0 0) from rfl); have hfX3_0 := HX3.out.frozen 0; have hxX3_1 := (HX3.out.cell 1).trans (show _ = some (.slice none 0 0) from rfl); have hfX3_1 := HX3.out.frozen 1) | ((with_reducible refine gate_callee (f := 50) rfl ?_); refine goesL_ (some 34) rfl rfl Try.func50 (by kernel_rfl) rfl #[.agg #[.slice B0 l0.length D0, .slice B1 l1.length D1]] rfl (by (try simp only [List.map_toArray, List.map_cons, List.map_nil]); first | done | rfl | (simp only [List.length_drop, List.length_take]; rfl)) ?_; (with_reducible refine (spec_l02Bytes.calls k _ _ l0 _ _ l1 t1 _ H0.out.reads H0.out.room H1.out.reads H1.out.room E1.out).mono ?_); rintro e w2 ⟨vF18, rfl, hrF18, hb⟩; refine ⟨_, rfl, ?_⟩; have hk := kept_below hb; obtain ⟨PF18, hPF18, HLF18⟩ := LR.fresh rfl HB.out hrF18; have HF18 := Aside0.mk HLF18; clear HLF18 hrF18; have D_0_F18 := Aside0.mk (new_apart H0.out.lt hPF18); have D_1_F18 := Aside0.mk (new_apart H1.out.lt hPF18); have D_X1_F18 := Aside0.mk (new_apart HX1.out.lt hPF18); have D_X2_F18 := Aside0.mk (new_apart HX2.out.lt hPF18); have D_X3_F18 := Aside0.mk (new_apart HX3.out.lt hPF18); have RRF18 := Aside0.mk (show ∀ k_, PF18 k_ → (fun k_ => P0 k_ ∨ P1 k_) k_ ∨ w.heap.size ≤ k_ from fun k_ h_ => .inr (Nat.le_trans HB.out.size (hPF18 k_ h_).1)); replace H0 := Aside0.mk (H0.out.step hk no_S); replace H1 := Aside0.mk (H1.out.step hk no_S); replace HX1 := Aside0.mk (HX1.out.step hk no_S); replace HX2 := Aside0.mk (HX2.out.step hk no_S); replace HX3 := Aside0.mk (HX3.out.step hk no_S); clear hPF18; obtain ⟨BF18, DF18, e_F18⟩ := HF18.out.val; subst e_F18; replace HB := Aside0.mk (below_step HB.out hb); clear hb hk; (try clear hxX1_0 hfX1_0 hxX1_1 hfX1_1); have hxX1_0 := (HX1.out.cell 0).trans (show _ = some (.slice B0 l0.length D0) from rfl); have hfX1_0 := HX1.out.frozen 0; have hxX1_1 := (HX1.out.cell 1).trans (show _ = some (.slice B1 l1.length D1) from rfl); have hfX1_1 := HX1.out.frozen 1; (try clear hxX2_0 hfX2_0 hxX2_1 hfX2_1 hxX2_2 hfX2_2 hxX2_3 hfX2_3); have hxX2_0 := (HX2.out.cell 0).trans (show _ = some (.int .i64 a0) from rfl); have hfX2_0 := HX2.out.frozen 0; have hxX2_1 := (HX2.out.cell 1).trans (show _ = some (.int .i64 a1) from rfl); have hfX2_1 := HX2.out.frozen 1; have hxX2_2 := (HX2.out.cell 2).trans (show _ = some (.int .i64 a2) from rfl); have hfX2_2 := HX2.out.frozen 2; have hxX2_3 := (HX2.out.cell 3).trans (show _ = some (.slice A3 l3.length c3) from rfl); have hfX2_3 := HX2.out.frozen 3; (try clear hxX3_0 hfX3_0 hxX3_1 hfX3_1); have hxX3_0 := (HX3.out.cell 0).trans (show _ = some (.slice none 0 0) from rfl); have hfX3_0 := HX3.out.frozen 0; have hxX3_1 := (HX3.out.cell 1).trans (show _ = some (.slice none 0 0) from rfl); have hfX3_1 := HX3.out.frozen 1) | ((with_reducible refine gate_store (t := 29) (p := 4) rfl ?_); refine LB.stored HX3.out HB.out GEX3.out 0 [.slice BF18 t1.length DF18, .slice none 0 0] rfl (t := 29) (p := 4) rfl rfl ?hr_25 ?_; (case hr_25 => first | (go_simp; done) | (go_simp; rfl)); intro w2 hx hk hb; replace H0 := Aside0.mk (H0.out.step hk D_0_X3.out); replace H1 := Aside0.mk (H1.out.step hk D_1_X3.out); replace HX1 := Aside0.mk (HX1.out.step hk D_X1_X3.out); replace HX2 := Aside0.mk (HX2.out.step hk D_X2_X3.out); replace HF18 := Aside0.mk (HF18.out.step hk (apart_symm D_X3_F18.out)); replace HB := Aside0.mk hb; replace HX3 := Aside0.mk (show LB w2 PX3 gX3 29 #[.slice BF18 t1.length DF18, .slice none 0 0] from hx); clear hk hx hb; (try clear hxX1_0 hfX1_0 hxX1_1 hfX1_1); have hxX1_0 := (HX1.out.cell 0).trans (show _ = some (.slice B0 l0.length D0) from rfl); have hfX1_0 := HX1.out.frozen 0; have hxX1_1 := (HX1.out.cell 1).trans (show _ = some (.slice B1 l1.length D1) from rfl); have hfX1_1 := HX1.out.frozen 1; (try clear hxX2_0 hfX2_0 hxX2_1 hfX2_1 hxX2_2 hfX2_2 hxX2_3 hfX2_3); have hxX2_0 := (HX2.out.cell 0).trans (show _ = some (.int .i64 a0) from rfl); have hfX2_0 := HX2.out.frozen 0; have hxX2_1 := (HX2.out.cell 1).trans (show _ = some (.int .i64 a1) from rfl); have hfX2_1 := HX2.out.frozen 1; have hxX2_2 := (HX2.out.cell 2).trans (show _ = some (.int .i64 a2) from rfl); have hfX2_2 := HX2.out.frozen 2; have hxX2_3 := (HX2.out.cell 3).trans (show _ = some (.slice A3 l3.length c3) from rfl); have hfX2_3 := HX2.out.frozen 3; (try clear hxX3_0 hfX3_0 hxX3_1 hfX3_1); have hxX3_0 := (HX3.out.cell 0).trans (show _ = some (.slice BF18 t1.length DF18) from rfl); have hfX3_0 := HX3.out.frozen 0; have hxX3_1 := (HX3.out.cell 1).trans (show _ = some (.slice none 0 0) from rfl); have hfX3_1 := HX3.out.frozen 1))
    refine bodyPost_ret (results_ct rfl _ _ gX3 29 #[.slice BF18 t1.length DF18, .slice none 0 0] (0, 0) _ rfl HX3.out.2.1 Try.underlying29 rfl (by kernel_rfl)) rfl ?_
    exact ⟨_, _, _, _, rfl, HF18.out.toLN, LN.nil _ _ _ _, fun _ hk => .inr hk.2, fun _ hk => hk.elim, fun _ _ hk => hk, HB.out⟩
  rw [if_neg k2] at h
  have k2b : (a0 == 2) = false := beq_eq_false_iff_ne.mpr k2
  by_cases k3 : a0 = 3
  · rw [if_pos k3] at h
    have k3b : (a0 == 3) = true := beq_iff_eq.mpr k3
    clear k1 k2 k3
    by_cases c1 : a1 < 0
    · rw [if_pos c1] at h
      have cb1 : decide (a1 < 0) = true := decide_eq_true c1
      clear c1
      simp only [Option.some.injEq, Prod.mk.injEq] at h
      obtain ⟨rfl, rfl, rfl⟩ := h
      go_enter Try.func75, Try.ntmps75
      go_wp2_with (first | ((with_reducible refine gate_dst (N := 2) rfl ?_); refine box_event ?hg_1 (N := 2) ?hd_1 (cs := #[.slice B0 l0.length D0, .slice B1 l1.length D1]) (t := 29) ?hr_1 ?_; (case hd_1 => rfl); (case hg_1 => rfl); (case hr_1 => first | (go_simp; done) | (go_simp; rfl)); intro gX1 hg w2 hbox hb; have hk := kept_below hb; obtain ⟨PX1, hPX1, HLX1⟩ := LB.fresh hg hbox; have HX1 := Aside0.mk HLX1; clear HLX1; have GEX1 := Aside0.mk (show w.heap.size ≤ gX1 from (by rw [hg]; exact HB.out.size)); have D_0_X1 := Aside0.mk (new_apart H0.out.lt hPX1); have D_1_X1 := Aside0.mk (new_apart H1.out.lt hPX1); have RRX1 := Aside0.mk (show ∀ k_, PX1 k_ → (fun k_ => P0 k_ ∨ P1 k_) k_ ∨ w.heap.size ≤ k_ from fun k_ h_ => .inr (Nat.le_trans HB.out.size (hPX1 k_ h_).1)); replace H0 := Aside0.mk (H0.out.step hk no_S); replace H1 := Aside0.mk (H1.out.step hk no_S); replace HB := Aside0.mk (below_step HB.out hb); clear hb hk hbox hg hPX1; (try clear hxX1_0 hfX1_0 hxX1_1 hfX1_1); have hxX1_0 := (HX1.out.cell 0).trans (show _ = some (.slice B0 l0.length D0) from rfl); have hfX1_0 := HX1.out.frozen 0; have hxX1_1 := (HX1.out.cell 1).trans (show _ = some (.slice B1 l1.length D1) from rfl); have hfX1_1 := HX1.out.frozen 1) | ((with_reducible refine gate_dst (N := 3) rfl ?_); refine box_event ?hg_2 (N := 3) ?hd_2 (cs := #[.int .i64 a0, .int .i64 a1, .int .i64 a2, .slice A3 l3.length c3]) (t := 100) ?hr_2 ?_; (case hd_2 => rfl); (case hg_2 => rfl); (case hr_2 => first | (go_simp; done) | (go_simp; rfl)); intro gX2 hg w2 hbox hb; have hk := kept_below hb; obtain ⟨PX2, hPX2, HLX2⟩ := LB.fresh hg hbox; have HX2 := Aside0.mk HLX2; clear HLX2; have GEX2 := Aside0.mk (show w.heap.size ≤ gX2 from (by rw [hg]; exact HB.out.size)); have D_0_X2 := Aside0.mk (new_apart H0.out.lt hPX2); have D_1_X2 := Aside0.mk (new_apart H1.out.lt hPX2); have D_X1_X2 := Aside0.mk (new_apart HX1.out.lt hPX2); have RRX2 := Aside0.mk (show ∀ k_, PX2 k_ → (fun k_ => P0 k_ ∨ P1 k_) k_ ∨ w.heap.size ≤ k_ from fun k_ h_ => .inr (Nat.le_trans HB.out.size (hPX2 k_ h_).1)); replace H0 := Aside0.mk (H0.out.step hk no_S); replace H1 := Aside0.mk (H1.out.step hk no_S); replace HX1 := Aside0.mk (HX1.out.step hk no_S); replace HB := Aside0.mk (below_step HB.out hb); clear hb hk hbox hg hPX2; (try clear hxX1_0 hfX1_0 hxX1_1 hfX1_1); have hxX1_0 := (HX1.out.cell 0).trans (show _ = some (.slice B0 l0.length D0) from rfl); have hfX1_0 := HX1.out.frozen 0; have hxX1_1 := (HX1.out.cell 1).trans (show _ = some (.slice B1 l1.length D1) from rfl); have hfX1_1 := HX1.out.frozen 1; (try clear hxX2_0 hfX2_0 hxX2_1 hfX2_1 hxX2_2 hfX2_2 hxX2_3 hfX2_3); have hxX2_0 := (HX2.out.cell 0).trans (show _ = some (.int .i64 a0) from rfl); have hfX2_0 := HX2.out.frozen 0; have hxX2_1 := (HX2.out.cell 1).trans (show _ = some (.int .i64 a1) from rfl); have hfX2_1 := HX2.out.frozen 1; have hxX2_2 := (HX2.out.cell 2).trans (show _ = some (.int .i64 a2) from rfl); have hfX2_2 := HX2.out.frozen 2; have hxX2_3 := (HX2.out.cell 3).trans (show _ = some (.slice A3 l3.length c3) from rfl); have hfX2_3 := HX2.out.frozen 3) | ((with_reducible refine gate_dst (N := 4) rfl ?_); refine box_event ?hg_3 (N := 4) ?hd_3 (cs := #[.slice none 0 0, .slice none 0 0]) (t := 29) ?hr_3 ?_; (case hd_3 => rfl); (case hg_3 => rfl); (case hr_3 => first | (go_simp; done) | (go_simp; rfl)); intro gX3 hg w2 hbox hb; have hk := kept_below hb; obtain ⟨PX3, hPX3, HLX3⟩ := LB.fresh hg hbox; have HX3 := Aside0.mk HLX3; clear HLX3; have GEX3 := Aside0.mk (show w.heap.size ≤ gX3 from (by rw [hg]; exact HB.out.size)); have D_0_X3 := Aside0.mk (new_apart H0.out.lt hPX3); have D_1_X3 := Aside0.mk (new_apart H1.out.lt hPX3); have D_X1_X3 := Aside0.mk (new_apart HX1.out.lt hPX3); have D_X2_X3 := Aside0.mk (new_apart HX2.out.lt hPX3); have RRX3 := Aside0.mk (show ∀ k_, PX3 k_ → (fun k_ => P0 k_ ∨ P1 k_) k_ ∨ w.heap.size ≤ k_ from fun k_ h_ => .inr (Nat.le_trans HB.out.size (hPX3 k_ h_).1)); replace H0 := Aside0.mk (H0.out.step hk no_S); replace H1 := Aside0.mk (H1.out.step hk no_S); replace HX1 := Aside0.mk (HX1.out.step hk no_S); replace HX2 := Aside0.mk (HX2.out.step hk no_S); replace HB := Aside0.mk (below_step HB.out hb); clear hb hk hbox hg hPX3; (try clear hxX1_0 hfX1_0 hxX1_1 hfX1_1); have hxX1_0 := (HX1.out.cell 0).trans (show _ = some (.slice B0 l0.length D0) from rfl); have hfX1_0 := HX1.out.frozen 0; have hxX1_1 := (HX1.out.cell 1).trans (show _ = some (.slice B1 l1.length D1) from rfl); have hfX1_1 := HX1.out.frozen 1; (try clear hxX2_0 hfX2_0 hxX2_1 hfX2_1 hxX2_2 hfX2_2 hxX2_3 hfX2_3); have hxX2_0 := (HX2.out.cell 0).trans (show _ = some (.int .i64 a0) from rfl); have hfX2_0 := HX2.out.frozen 0; have hxX2_1 := (HX2.out.cell 1).trans (show _ = some (.int .i64 a1) from rfl); have hfX2_1 := HX2.out.frozen 1; have hxX2_2 := (HX2.out.cell 2).trans (show _ = some (.int .i64 a2) from rfl); have hfX2_2 := HX2.out.frozen 2; have hxX2_3 := (HX2.out.cell 3).trans (show _ = some (.slice A3 l3.length c3) from rfl); have hfX2_3 := HX2.out.frozen 3; (try clear hxX3_0 hfX3_0 hxX3_1 hfX3_1); have hxX3_0 := (HX3.out.cell 0).trans (show _ = some (.slice none 0 0) from rfl); have hfX3_0 := HX3.out.frozen 0; have hxX3_1 := (HX3.out.cell 1).trans (show _ = some (.slice none 0 0) from rfl); have hfX3_1 := HX3.out.frozen 1) | ((with_reducible refine gate_store (t := 29) (p := 4) rfl ?_); refine LB.stored HX3.out HB.out GEX3.out 0 [.slice B0 l0.length D0, .slice B1 l1.length D1] rfl (t := 29) (p := 4) rfl rfl ?hr_26 ?_; (case hr_26 => first | (go_simp; done) | (go_simp; rfl)); intro w2 hx hk hb; replace H0 := Aside0.mk (H0.out.step hk D_0_X3.out); replace H1 := Aside0.mk (H1.out.step hk D_1_X3.out); replace HX1 := Aside0.mk (HX1.out.step hk D_X1_X3.out); replace HX2 := Aside0.mk (HX2.out.step hk D_X2_X3.out); replace HB := Aside0.mk hb; replace HX3 := Aside0.mk (show LB w2 PX3 gX3 29 #[.slice B0 l0.length D0, .slice B1 l1.length D1] from hx); clear hk hx hb; (try clear hxX1_0 hfX1_0 hxX1_1 hfX1_1); have hxX1_0 := (HX1.out.cell 0).trans (show _ = some (.slice B0 l0.length D0) from rfl); have hfX1_0 := HX1.out.frozen 0; have hxX1_1 := (HX1.out.cell 1).trans (show _ = some (.slice B1 l1.length D1) from rfl); have hfX1_1 := HX1.out.frozen 1; (try clear hxX2_0 hfX2_0 hxX2_1 hfX2_1 hxX2_2 hfX2_2 hxX2_3 hfX2_3); have hxX2_0 := (HX2.out.cell 0).trans (show _ = some (.int .i64 a0) from rfl); have hfX2_0 := HX2.out.frozen 0; have hxX2_1 := (HX2.out.cell 1).trans (show _ = some (.int .i64 a1) from rfl); have hfX2_1 := HX2.out.frozen 1; have hxX2_2 := (HX2.out.cell 2).trans (show _ = some (.int .i64 a2) from rfl); have hfX2_2 := HX2.out.frozen 2; have hxX2_3 := (HX2.out.cell 3).trans (show _ = some (.slice A3 l3.length c3) from rfl); have hfX2_3 := HX2.out.frozen 3; (try clear hxX3_0 hfX3_0 hxX3_1 hfX3_1); have hxX3_0 := (HX3.out.cell 0).trans (show _ = some (.slice B0 l0.length D0) from rfl); have hfX3_0 := HX3.out.frozen 0; have hxX3_1 := (HX3.out.cell 1).trans (show _ = some (.slice B1 l1.length D1) from rfl); have hfX3_1 := HX3.out.frozen 1))
      refine bodyPost_ret (results_ct rfl _ _ gX3 29 #[.slice B0 l0.length D0, .slice B1 l1.length D1] (0, 0) _ rfl HX3.out.2.1 Try.underlying29 rfl (by kernel_rfl)) rfl ?_
      exact ⟨_, _, _, _, rfl, H0.out, H1.out, fun _ hk => .inl (.inl hk), fun _ hk => .inl (.inr hk), D_0_1.out, HB.out⟩
    · rw [if_neg c1] at h
      have cb1 : decide (a1 < 0) = false := decide_eq_false c1
      clear c1
      by_cases c2 : a2 < 0
      · rw [if_pos c2] at h
        have cb2 : decide (a2 < 0) = true := decide_eq_true c2
        clear c2
        simp only [Option.some.injEq, Prod.mk.injEq] at h
        obtain ⟨rfl, rfl, rfl⟩ := h
        go_enter Try.func75, Try.ntmps75
        go_wp2_with (first | ((with_reducible refine gate_dst (N := 2) rfl ?_); refine box_event ?hg_1 (N := 2) ?hd_1 (cs := #[.slice B0 l0.length D0, .slice B1 l1.length D1]) (t := 29) ?hr_1 ?_; (case hd_1 => rfl); (case hg_1 => rfl); (case hr_1 => first | (go_simp; done) | (go_simp; rfl)); intro gX1 hg w2 hbox hb; have hk := kept_below hb; obtain ⟨PX1, hPX1, HLX1⟩ := LB.fresh hg hbox; have HX1 := Aside0.mk HLX1; clear HLX1; have GEX1 := Aside0.mk (show w.heap.size ≤ gX1 from (by rw [hg]; exact HB.out.size)); have D_0_X1 := Aside0.mk (new_apart H0.out.lt hPX1); have D_1_X1 := Aside0.mk (new_apart H1.out.lt hPX1); have RRX1 := Aside0.mk (show ∀ k_, PX1 k_ → (fun k_ => P0 k_ ∨ P1 k_) k_ ∨ w.heap.size ≤ k_ from fun k_ h_ => .inr (Nat.le_trans HB.out.size (hPX1 k_ h_).1)); replace H0 := Aside0.mk (H0.out.step hk no_S); replace H1 := Aside0.mk (H1.out.step hk no_S); replace HB := Aside0.mk (below_step HB.out hb); clear hb hk hbox hg hPX1; (try clear hxX1_0 hfX1_0 hxX1_1 hfX1_1); have hxX1_0 := (HX1.out.cell 0).trans (show _ = some (.slice B0 l0.length D0) from rfl); have hfX1_0 := HX1.out.frozen 0; have hxX1_1 := (HX1.out.cell 1).trans (show _ = some (.slice B1 l1.length D1) from rfl); have hfX1_1 := HX1.out.frozen 1) | ((with_reducible refine gate_dst (N := 3) rfl ?_); refine box_event ?hg_2 (N := 3) ?hd_2 (cs := #[.int .i64 a0, .int .i64 a1, .int .i64 a2, .slice A3 l3.length c3]) (t := 100) ?hr_2 ?_; (case hd_2 => rfl); (case hg_2 => rfl); (case hr_2 => first | (go_simp; done) | (go_simp; rfl)); intro gX2 hg w2 hbox hb; have hk := kept_below hb; obtain ⟨PX2, hPX2, HLX2⟩ := LB.fresh hg hbox; have HX2 := Aside0.mk HLX2; clear HLX2; have GEX2 := Aside0.mk (show w.heap.size ≤ gX2 from (by rw [hg]; exact HB.out.size)); have D_0_X2 := Aside0.mk (new_apart H0.out.lt hPX2); have D_1_X2 := Aside0.mk (new_apart H1.out.lt hPX2); have D_X1_X2 := Aside0.mk (new_apart HX1.out.lt hPX2); have RRX2 := Aside0.mk (show ∀ k_, PX2 k_ → (fun k_ => P0 k_ ∨ P1 k_) k_ ∨ w.heap.size ≤ k_ from fun k_ h_ => .inr (Nat.le_trans HB.out.size (hPX2 k_ h_).1)); replace H0 := Aside0.mk (H0.out.step hk no_S); replace H1 := Aside0.mk (H1.out.step hk no_S); replace HX1 := Aside0.mk (HX1.out.step hk no_S); replace HB := Aside0.mk (below_step HB.out hb); clear hb hk hbox hg hPX2; (try clear hxX1_0 hfX1_0 hxX1_1 hfX1_1); have hxX1_0 := (HX1.out.cell 0).trans (show _ = some (.slice B0 l0.length D0) from rfl); have hfX1_0 := HX1.out.frozen 0; have hxX1_1 := (HX1.out.cell 1).trans (show _ = some (.slice B1 l1.length D1) from rfl); have hfX1_1 := HX1.out.frozen 1; (try clear hxX2_0 hfX2_0 hxX2_1 hfX2_1 hxX2_2 hfX2_2 hxX2_3 hfX2_3); have hxX2_0 := (HX2.out.cell 0).trans (show _ = some (.int .i64 a0) from rfl); have hfX2_0 := HX2.out.frozen 0; have hxX2_1 := (HX2.out.cell 1).trans (show _ = some (.int .i64 a1) from rfl); have hfX2_1 := HX2.out.frozen 1; have hxX2_2 := (HX2.out.cell 2).trans (show _ = some (.int .i64 a2) from rfl); have hfX2_2 := HX2.out.frozen 2; have hxX2_3 := (HX2.out.cell 3).trans (show _ = some (.slice A3 l3.length c3) from rfl); have hfX2_3 := HX2.out.frozen 3) | ((with_reducible refine gate_dst (N := 4) rfl ?_); refine box_event ?hg_3 (N := 4) ?hd_3 (cs := #[.slice none 0 0, .slice none 0 0]) (t := 29) ?hr_3 ?_; (case hd_3 => rfl); (case hg_3 => rfl); (case hr_3 => first | (go_simp; done) | (go_simp; rfl)); intro gX3 hg w2 hbox hb; have hk := kept_below hb; obtain ⟨PX3, hPX3, HLX3⟩ := LB.fresh hg hbox; have HX3 := Aside0.mk HLX3; clear HLX3; have GEX3 := Aside0.mk (show w.heap.size ≤ gX3 from (by rw [hg]; exact HB.out.size)); have D_0_X3 := Aside0.mk (new_apart H0.out.lt hPX3); have D_1_X3 := Aside0.mk (new_apart H1.out.lt hPX3); have D_X1_X3 := Aside0.mk (new_apart HX1.out.lt hPX3); have D_X2_X3 := Aside0.mk (new_apart HX2.out.lt hPX3); have RRX3 := Aside0.mk (show ∀ k_, PX3 k_ → (fun k_ => P0 k_ ∨ P1 k_) k_ ∨ w.heap.size ≤ k_ from fun k_ h_ => .inr (Nat.le_trans HB.out.size (hPX3 k_ h_).1)); replace H0 := Aside0.mk (H0.out.step hk no_S); replace H1 := Aside0.mk (H1.out.step hk no_S); replace HX1 := Aside0.mk (HX1.out.step hk no_S); replace HX2 := Aside0.mk (HX2.out.step hk no_S); replace HB := Aside0.mk (below_step HB.out hb); clear hb hk hbox hg hPX3; (try clear hxX1_0 hfX1_0 hxX1_1 hfX1_1); have hxX1_0 := (HX1.out.cell 0).trans (show _ = some (.slice B0 l0.length D0) from rfl); have hfX1_0 := HX1.out.frozen 0; have hxX1_1 := (HX1.out.cell 1).trans (show _ = some (.slice B1 l1.length D1) from rfl); have hfX1_1 := HX1.out.frozen 1; (try clear hxX2_0 hfX2_0 hxX2_1 hfX2_1 hxX2_2 hfX2_2 hxX2_3 hfX2_3); have hxX2_0 := (HX2.out.cell 0).trans (show _ = some (.int .i64 a0) from rfl); have hfX2_0 := HX2.out.frozen 0; have hxX2_1 := (HX2.out.cell 1).trans (show _ = some (.int .i64 a1) from rfl); have hfX2_1 := HX2.out.frozen 1; have hxX2_2 := (HX2.out.cell 2).trans (show _ = some (.int .i64 a2) from rfl); have hfX2_2 := HX2.out.frozen 2; have hxX2_3 := (HX2.out.cell 3).trans (show _ = some (.slice A3 l3.length c3) from rfl); have hfX2_3 := HX2.out.frozen 3; (try clear hxX3_0 hfX3_0 hxX3_1 hfX3_1); have hxX3_0 := (HX3.out.cell 0).trans (show _ = some (.slice none 0 0) from rfl); have hfX3_0 := HX3.out.frozen 0; have hxX3_1 := (HX3.out.cell 1).trans (show _ = some (.slice none 0 0) from rfl); have hfX3_1 := HX3.out.frozen 1) | ((with_reducible refine gate_store (t := 29) (p := 4) rfl ?_); refine LB.stored HX3.out HB.out GEX3.out 0 [.slice B0 l0.length D0, .slice B1 l1.length D1] rfl (t := 29) (p := 4) rfl rfl ?hr_27 ?_; (case hr_27 => first | (go_simp; done) | (go_simp; rfl)); intro w2 hx hk hb; replace H0 := Aside0.mk (H0.out.step hk D_0_X3.out); replace H1 := Aside0.mk (H1.out.step hk D_1_X3.out); replace HX1 := Aside0.mk (HX1.out.step hk D_X1_X3.out); replace HX2 := Aside0.mk (HX2.out.step hk D_X2_X3.out); replace HB := Aside0.mk hb; replace HX3 := Aside0.mk (show LB w2 PX3 gX3 29 #[.slice B0 l0.length D0, .slice B1 l1.length D1] from hx); clear hk hx hb; (try clear hxX1_0 hfX1_0 hxX1_1 hfX1_1); have hxX1_0 := (HX1.out.cell 0).trans (show _ = some (.slice B0 l0.length D0) from rfl); have hfX1_0 := HX1.out.frozen 0; have hxX1_1 := (HX1.out.cell 1).trans (show _ = some (.slice B1 l1.length D1) from rfl); have hfX1_1 := HX1.out.frozen 1; (try clear hxX2_0 hfX2_0 hxX2_1 hfX2_1 hxX2_2 hfX2_2 hxX2_3 hfX2_3); have hxX2_0 := (HX2.out.cell 0).trans (show _ = some (.int .i64 a0) from rfl); have hfX2_0 := HX2.out.frozen 0; have hxX2_1 := (HX2.out.cell 1).trans (show _ = some (.int .i64 a1) from rfl); have hfX2_1 := HX2.out.frozen 1; have hxX2_2 := (HX2.out.cell 2).trans (show _ = some (.int .i64 a2) from rfl); have hfX2_2 := HX2.out.frozen 2; have hxX2_3 := (HX2.out.cell 3).trans (show _ = some (.slice A3 l3.length c3) from rfl); have hfX2_3 := HX2.out.frozen 3; (try clear hxX3_0 hfX3_0 hxX3_1 hfX3_1); have hxX3_0 := (HX3.out.cell 0).trans (show _ = some (.slice B0 l0.length D0) from rfl); have hfX3_0 := HX3.out.frozen 0; have hxX3_1 := (HX3.out.cell 1).trans (show _ = some (.slice B1 l1.length D1) from rfl); have hfX3_1 := HX3.out.frozen 1))
        refine bodyPost_ret (results_ct rfl _ _ gX3 29 #[.slice B0 l0.length D0, .slice B1 l1.length D1] (0, 0) _ rfl HX3.out.2.1 Try.underlying29 rfl (by kernel_rfl)) rfl ?_
        exact ⟨_, _, _, _, rfl, H0.out, H1.out, fun _ hk => .inl (.inl hk), fun _ hk => .inl (.inr hk), D_0_1.out, HB.out⟩
      · rw [if_neg c2] at h
        have cb2 : decide (a2 < 0) = false := decide_eq_false c2
        clear c2
        obtain ⟨⟨t1, t2⟩, e1, h⟩ := Option.bind_eq_some_iff.1 h
        have E1 := Aside0.mk e1
        clear e1
        simp only [Option.some.injEq, Prod.mk.injEq] at h
        obtain ⟨rfl, rfl, rfl⟩ := h
        go_enter Try.func75, Try.ntmps75
        go_wp2_with (first | ((with_reducible refine gate_dst (N := 2) rfl ?_); refine box_event ?hg_1 (N := 2) ?hd_1 (cs := #[.slice B0 l0.length D0, .slice B1 l1.length D1]) (t := 29) ?hr_1 ?_; (case hd_1 => rfl); (case hg_1 => rfl); (case hr_1 => first | (go_simp; done) | (go_simp; rfl)); intro gX1 hg w2 hbox hb; have hk := kept_below hb; obtain ⟨PX1, hPX1, HLX1⟩ := LB.fresh hg hbox; have HX1 := Aside0.mk HLX1; clear HLX1; have GEX1 := Aside0.mk (show w.heap.size ≤ gX1 from (by rw [hg]; exact HB.out.size)); have D_0_X1 := Aside0.mk (new_apart H0.out.lt hPX1); have D_1_X1 := Aside0.mk (new_apart H1.out.lt hPX1); have RRX1 := Aside0.mk (show ∀ k_, PX1 k_ → (fun k_ => P0 k_ ∨ P1 k_) k_ ∨ w.heap.size ≤ k_ from fun k_ h_ => .inr (Nat.le_trans HB.out.size (hPX1 k_ h_).1)); replace H0 := Aside0.mk (H0.out.step hk no_S); replace H1 := Aside0.mk (H1.out.step hk no_S); replace HB := Aside0.mk (below_step HB.out hb); clear hb hk hbox hg hPX1; (try clear hxX1_0 hfX1_0 hxX1_1 hfX1_1); have hxX1_0 := (HX1.out.cell 0).trans (show _ = some (.slice B0 l0.length D0) from rfl); have hfX1_0 := HX1.out.frozen 0; have hxX1_1 := (HX1.out.cell 1).trans (show _ = some (.slice B1 l1.length D1) from rfl); have hfX1_1 := HX1.out.frozen 1) | ((with_reducible refine gate_dst (N := 3) rfl ?_); refine box_event ?hg_2 (N := 3) ?hd_2 (cs := #[.int .i64 a0, .int .i64 a1, .int .i64 a2, .slice A3 l3.length c3]) (t := 100) ?hr_2 ?_; (case hd_2 => rfl); (case hg_2 => rfl); (case hr_2 => first | (go_simp; done) | (go_simp; rfl)); intro gX2 hg w2 hbox hb; have hk := kept_below hb; obtain ⟨PX2, hPX2, HLX2⟩ := LB.fresh hg hbox; have HX2 := Aside0.mk HLX2; clear HLX2; have GEX2 := Aside0.mk (show w.heap.size ≤ gX2 from (by rw [hg]; exact HB.out.size)); have D_0_X2 := Aside0.mk (new_apart H0.out.lt hPX2); have D_1_X2 := Aside0.mk (new_apart H1.out.lt hPX2); have D_X1_X2 := Aside0.mk (new_apart HX1.out.lt hPX2); have RRX2 := Aside0.mk (show ∀ k_, PX2 k_ → (fun k_ => P0 k_ ∨ P1 k_) k_ ∨ w.heap.size ≤ k_ from fun k_ h_ => .inr (Nat.le_trans HB.out.size (hPX2 k_ h_).1)); replace H0 := Aside0.mk (H0.out.step hk no_S); replace H1 := Aside0.mk (H1.out.step hk no_S); replace HX1 := Aside0.mk (HX1.out.step hk no_S); replace HB := Aside0.mk (below_step HB.out hb); clear hb hk hbox hg hPX2; (try clear hxX1_0 hfX1_0 hxX1_1 hfX1_1); have hxX1_0 := (HX1.out.cell 0).trans (show _ = some (.slice B0 l0.length D0) from rfl); have hfX1_0 := HX1.out.frozen 0; have hxX1_1 := (HX1.out.cell 1).trans (show _ = some (.slice B1 l1.length D1) from rfl); have hfX1_1 := HX1.out.frozen 1; (try clear hxX2_0 hfX2_0 hxX2_1 hfX2_1 hxX2_2 hfX2_2 hxX2_3 hfX2_3); have hxX2_0 := (HX2.out.cell 0).trans (show _ = some (.int .i64 a0) from rfl); have hfX2_0 := HX2.out.frozen 0; have hxX2_1 := (HX2.out.cell 1).trans (show _ = some (.int .i64 a1) from rfl); have hfX2_1 := HX2.out.frozen 1; have hxX2_2 := (HX2.out.cell 2).trans (show _ = some (.int .i64 a2) from rfl); have hfX2_2 := HX2.out.frozen 2; have hxX2_3 := (HX2.out.cell 3).trans (show _ = some (.slice A3 l3.length c3) from rfl); have hfX2_3 := HX2.out.frozen 3) | ((with_reducible refine gate_dst (N := 4) rfl ?_); refine box_event ?hg_3 (N := 4) ?hd_3 (cs := #[.slice none 0 0, .slice none 0 0]) (t := 29) ?hr_3 ?_; (case hd_3 => rfl); (case hg_3 => rfl); (case hr_3 => first | (go_simp; done) | (go_simp; rfl)); intro gX3 hg w2 hbox hb; have hk := kept_below hb; obtain ⟨PX3, hPX3, HLX3⟩ := LB.fresh hg hbox; have HX3 := Aside0.mk HLX3; clear HLX3; have GEX3 := Aside0.mk (show w.heap.size ≤ gX3 from (by rw [hg]; exact HB.out.size)); have D_0_X3 := Aside0.mk (new_apart H0.out.lt hPX3); have D_1_X3 := Aside0.mk (new_apart H1.out.lt hPX3); have D_X1_X3 := Aside0.mk (new_apart HX1.out.lt hPX3); have D_X2_X3 := Aside0.mk (new_apart HX2.out.lt hPX3); have RRX3 := Aside0.mk (show ∀ k_, PX3 k_ → (fun k_ => P0 k_ ∨ P1 k_) k_ ∨ w.heap.size ≤ k_ from fun k_ h_ => .inr (Nat.le_trans HB.out.size (hPX3 k_ h_).1)); replace H0 := Aside0.mk (H0.out.step hk no_S); replace H1 := Aside0.mk (H1.out.step hk no_S); replace HX1 := Aside0.mk (HX1.out.step hk no_S); replace HX2 := Aside0.mk (HX2.out.step hk no_S); replace HB := Aside0.mk (below_step HB.out hb); clear hb hk hbox hg hPX3; (try clear hxX1_0 hfX1_0 hxX1_1 hfX1_1); have hxX1_0 := (HX1.out.cell 0).trans (show _ = some (.slice B0 l0.length D0) from rfl); have hfX1_0 := HX1.out.frozen 0; have hxX1_1 := (HX1.out.cell 1).trans (show _ = some (.slice B1 l1.length D1) from rfl); have hfX1_1 := HX1.out.frozen 1; (try clear hxX2_0 hfX2_0 hxX2_1 hfX2_1 hxX2_2 hfX2_2 hxX2_3 hfX2_3); have hxX2_0 := (HX2.out.cell 0).trans (show _ = some (.int .i64 a0) from rfl); have hfX2_0 := HX2.out.frozen 0; have hxX2_1 := (HX2.out.cell 1).trans (show _ = some (.int .i64 a1) from rfl); have hfX2_1 := HX2.out.frozen 1; have hxX2_2 := (HX2.out.cell 2).trans (show _ = some (.int .i64 a2) from rfl); have hfX2_2 := HX2.out.frozen 2; have hxX2_3 := (HX2.out.cell 3).trans (show _ = some (.slice A3 l3.length c3) from rfl); have hfX2_3 := HX2.out.frozen 3; (try clear hxX3_0 hfX3_0 hxX3_1 hfX3_1); have hxX3_0 := (HX3.out.cell 0).trans (show _ = some (.slice none 0 0) from rfl); have hfX3_0 := HX3.out.frozen 0; have hxX3_1 := (HX3.out.cell 1).trans (show _ = some (.slice none 0 0) from rfl); have hfX3_1 := HX3.out.frozen 1) | ((with_reducible refine gate_callee (f := 66) rfl ?_); refine goesL_ (some 52) rfl rfl Try.func66 (by kernel_rfl) rfl #[.agg #[.slice B0 l0.length D0, .slice B1 l1.length D1], .int .i64 a1, .int .i64 a2] rfl (by (try simp only [List.map_toArray, List.map_cons, List.map_nil]); first | done | rfl | (simp only [List.length_drop, List.length_take]; rfl)) ?_; (with_reducible refine (spec_l02Crash.calls k _ _ l0 _ _ l1 a1 a2 t1 t2 _ H0.out.reads H0.out.room H1.out.reads H1.out.room E1.out).mono ?_); rintro e w2 ⟨vF19, vF20, rfl, hrF19, hrF20, hb⟩; refine ⟨_, rfl, ?_⟩; have hk := kept_below hb; obtain ⟨PF19, hPF19, HLF19⟩ := LR.fresh rfl HB.out hrF19; have HF19 := Aside0.mk HLF19; clear HLF19 hrF19; have D_0_F19 := Aside0.mk (new_apart H0.out.lt hPF19); have D_1_F19 := Aside0.mk (new_apart H1.out.lt hPF19); have D_X1_F19 := Aside0.mk (new_apart HX1.out.lt hPF19); have D_X2_F19 := Aside0.mk (new_apart HX2.out.lt hPF19); have D_X3_F19 := Aside0.mk (new_apart HX3.out.lt hPF19); have RRF19 := Aside0.mk (show ∀ k_, PF19 k_ → (fun k_ => P0 k_ ∨ P1 k_) k_ ∨ w.heap.size ≤ k_ from fun k_ h_ => .inr (Nat.le_trans HB.out.size (hPF19 k_ h_).1)); obtain ⟨PF20, hPF20, HLF20⟩ := LS.fresh HB.out hrF20; have HF20 := Aside0.mk HLF20; clear HLF20 hrF20; have D_0_F20 := Aside0.mk (new_apart H0.out.lt hPF20); have D_1_F20 := Aside0.mk (new_apart H1.out.lt hPF20); have D_X1_F20 := Aside0.mk (new_apart HX1.out.lt hPF20); have D_X2_F20 := Aside0.mk (new_apart HX2.out.lt hPF20); have D_X3_F20 := Aside0.mk (new_apart HX3.out.lt hPF20); have RRF20 := Aside0.mk (show ∀ k_, PF20 k_ → (fun k_ => P0 k_ ∨ P1 k_) k_ ∨ w.heap.size ≤ k_ from fun k_ h_ => .inr (Nat.le_trans HB.out.size (hPF20 k_ h_).1)); have D_F19_F20 := Aside0.mk (show ∀ k_, PF19 k_ → ¬ PF20 k_ from fun k_ h1_ h2_ => by have a1_ := hPF19 k_ h1_; have a2_ := hPF20 k_ h2_; simp_all); replace H0 := Aside0.mk (H0.out.step hk no_S); replace H1 := Aside0.mk (H1.out.step hk no_S); replace HX1 := Aside0.mk (HX1.out.step hk no_S); replace HX2 := Aside0.mk (HX2.out.step hk no_S); replace HX3 := Aside0.mk (HX3.out.step hk no_S); clear hPF19; obtain ⟨BF19, DF19, e_F19⟩ := HF19.out.val; subst e_F19; clear hPF20; obtain ⟨BF20, DF20, e_F20⟩ := HF20.out.val; subst e_F20; replace HB := Aside0.mk (below_step HB.out hb); clear hb hk; (try clear hxX1_0 hfX1_0 hxX1_1 hfX1_1); have hxX1_0 := (HX1.out.cell 0).trans (show _ = some (.slice B0 l0.length D0) from rfl); have hfX1_0 := HX1.out.frozen 0; have hxX1_1 := (HX1.out.cell 1).trans (show _ = some (.slice B1 l1.length D1) from rfl); have hfX1_1 := HX1.out.frozen 1; (try clear hxX2_0 hfX2_0 hxX2_1 hfX2_1 hxX2_2 hfX2_2 hxX2_3 hfX2_3); have hxX2_0 := (HX2.out.cell 0).trans (show _ = some (.int .i64 a0) from rfl); have hfX2_0 := HX2.out.frozen 0; have hxX2_1 := (HX2.out.cell 1).trans (show _ = some (.int .i64 a1) from rfl); have hfX2_1 := HX2.out.frozen 1; have hxX2_2 := (HX2.out.cell 2).trans (show _ = some (.int .i64 a2) from rfl); have hfX2_2 := HX2.out.frozen 2; have hxX2_3 := (HX2.out.cell 3).trans (show _ = some (.slice A3 l3.length c3) from rfl); have hfX2_3 := HX2.out.frozen 3; (try clear hxX3_0 hfX3_0 hxX3_1 hfX3_1); have hxX3_0 := (HX3.out.cell 0).trans (show _ = some (.slice none 0 0) from rfl); have hfX3_0 := HX3.out.frozen 0; have hxX3_1 := (HX3.out.cell 1).trans (show _ = some (.slice none 0 0) from rfl); have hfX3_1 := HX3.out.frozen 1) | ((with_reducible refine gate_store (t := 29) (p := 4) rfl ?_); refine LB.stored HX3.out HB.out GEX3.out 0 [.slice BF19 t1.length DF19, .slice BF20 t2.length DF20] rfl (t := 29) (p := 4) rfl rfl ?hr_28 ?_; (case hr_28 => first | (go_simp; done) | (go_simp; rfl)); intro w2 hx hk hb; replace H0 := Aside0.mk (H0.out.step hk D_0_X3.out); replace H1 := Aside0.mk (H1.out.step hk D_1_X3.out); replace HX1 := Aside0.mk (HX1.out.step hk D_X1_X3.out); replace HX2 := Aside0.mk (HX2.out.step hk D_X2_X3.out); replace HF19 := Aside0.mk (HF19.out.step hk (apart_symm D_X3_F19.out)); replace HF20 := Aside0.mk (HF20.out.step hk (apart_symm D_X3_F20.out)); replace HB := Aside0.mk hb; replace HX3 := Aside0.mk (show LB w2 PX3 gX3 29 #[.slice BF19 t1.length DF19, .slice BF20 t2.length DF20] from hx); clear hk hx hb; (try clear hxX1_0 hfX1_0 hxX1_1 hfX1_1); have hxX1_0 := (HX1.out.cell 0).trans (show _ = some (.slice B0 l0.length D0) from rfl); have hfX1_0 := HX1.out.frozen 0; have hxX1_1 := (HX1.out.cell 1).trans (show _ = some (.slice B1 l1.length D1) from rfl); have hfX1_1 := HX1.out.frozen 1; (try clear hxX2_0 hfX2_0 hxX2_1 hfX2_1 hxX2_2 hfX2_2 hxX2_3 hfX2_3); have hxX2_0 := (HX2.out.cell 0).trans (show _ = some (.int .i64 a0) from rfl); have hfX2_0 := HX2.out.frozen 0; have hxX2_1 := (HX2.out.cell 1).trans (show _ = some (.int .i64 a1) from rfl); have hfX2_1 := HX2.out.frozen 1; have hxX2_2 := (HX2.out.cell 2).trans (show _ = some (.int .i64 a2) from rfl); have hfX2_2 := HX2.out.frozen 2; have hxX2_3 := (HX2.out.cell 3).trans (show _ = some (.slice A3 l3.length c3) from rfl); have hfX2_3 := HX2.out.frozen 3; (try clear hxX3_0 hfX3_0 hxX3_1 hfX3_1); have hxX3_0 := (HX3.out.cell 0).trans (show _ = some (.slice BF19 t1.length DF19) from rfl); have hfX3_0 := HX3.out.frozen 0; have hxX3_1 := (HX3.out.cell 1).trans (show _ = some (.slice BF20 t2.length DF20) from rfl); have hfX3_1 := HX3.out.frozen 1))
        refine bodyPost_ret (results_ct rfl _ _ gX3 29 #[.slice BF19 t1.length DF19, .slice BF20 t2.length DF20] (0, 0) _ rfl HX3.out.2.1 Try.underlying29 rfl (by kernel_rfl)) rfl ?_
        exact ⟨_, _, _, _, rfl, HF19.out.toLN, HF20.out.toLN, fun _ hk => .inr hk.2, fun _ hk => .inr hk.2, fun k_ h_ h2_ => D_F19_F20.out k_ h_.1 h2_.1, HB.out⟩
  rw [if_neg k3] at h
  have k3b : (a0 == 3) = false := beq_eq_false_iff_ne.mpr k3
  by_cases k4 : a0 = 4
  · rw [if_pos k4] at h
    have k4b : (a0 == 4) = true := beq_iff_eq.mpr k4
    clear k1 k2 k3 k4
    obtain ⟨t1, e1, h⟩ := Option.bind_eq_some_iff.1 h
    have E1 := Aside0.mk e1
    obtain ⟨t2, e2, h⟩ := Option.bind_eq_some_iff.1 h
    have E2 := Aside0.mk e2
    clear e1 e2
    by_cases c1 : t2 = true
    · rw [if_pos c1] at h
      subst c1
      by_cases c2 : 0 ≤ a1
      · rw [if_pos c2] at h
        by_cases c3 : a1 ≤ (t1.length : Int)
        · rw [if_pos c3] at h
          have C2 := Aside0.mk c2
          have C3 := Aside0.mk c3
          clear c2 c3
          obtain ⟨y1, hy1⟩ : ∃ y_ : List Int, y_ = t1.take a1.toNat := ⟨_, rfl⟩
          rw [← hy1] at h
          have Ny1 := Aside0.mk hy1
          clear hy1
          simp only [Option.some.injEq, Prod.mk.injEq] at h
          obtain ⟨rfl, rfl, rfl⟩ := h
          go_enter Try.func75, Try.ntmps75
          go_upto_region 17 with (first | ((with_reducible refine gate_dst (N := 2) rfl ?_); refine box_event ?hg_1 (N := 2) ?hd_1 (cs := #[.slice B0 l0.length D0, .slice B1 l1.length D1]) (t := 29) ?hr_1 ?_; (case hd_1 => rfl); (case hg_1 => rfl); (case hr_1 => first | (go_simp; done) | (go_simp; rfl)); intro gX1 hg w2 hbox hb; have hk := kept_below hb; obtain ⟨PX1, hPX1, HLX1⟩ := LB.fresh hg hbox; have HX1 := Aside0.mk HLX1; clear HLX1; have GEX1 := Aside0.mk (show w.heap.size ≤ gX1 from (by rw [hg]; exact HB.out.size)); have D_0_X1 := Aside0.mk (new_apart H0.out.lt hPX1); have D_1_X1 := Aside0.mk (new_apart H1.out.lt hPX1); have RRX1 := Aside0.mk (show ∀ k_, PX1 k_ → (fun k_ => P0 k_ ∨ P1 k_) k_ ∨ w.heap.size ≤ k_ from fun k_ h_ => .inr (Nat.le_trans HB.out.size (hPX1 k_ h_).1)); replace H0 := Aside0.mk (H0.out.step hk no_S); replace H1 := Aside0.mk (H1.out.step hk no_S); replace HB := Aside0.mk (below_step HB.out hb); clear hb hk hbox hg hPX1; (try clear hxX1_0 hfX1_0 hxX1_1 hfX1_1); have hxX1_0 := (HX1.out.cell 0).trans (show _ = some (.slice B0 l0.length D0) from rfl); have hfX1_0 := HX1.out.frozen 0; have hxX1_1 := (HX1.out.cell 1).trans (show _ = some (.slice B1 l1.length D1) from rfl); have hfX1_1 := HX1.out.frozen 1) | ((with_reducible refine gate_dst (N := 3) rfl ?_); refine box_event ?hg_2 (N := 3) ?hd_2 (cs := #[.int .i64 a0, .int .i64 a1, .int .i64 a2, .slice A3 l3.length c3]) (t := 100) ?hr_2 ?_; (case hd_2 => rfl); (case hg_2 => rfl); (case hr_2 => first | (go_simp; done) | (go_simp; rfl)); intro gX2 hg w2 hbox hb; have hk := kept_below hb; obtain ⟨PX2, hPX2, HLX2⟩ := LB.fresh hg hbox; have HX2 := Aside0.mk HLX2; clear HLX2; have GEX2 := Aside0.mk (show w.heap.size ≤ gX2 from (by rw [hg]; exact HB.out.size)); have D_0_X2 := Aside0.mk (new_apart H0.out.lt hPX2); have D_1_X2 := Aside0.mk (new_apart H1.out.lt hPX2); have D_X1_X2 := Aside0.mk (new_apart HX1.out.lt hPX2); have RRX2 := Aside0.mk (show ∀ k_, PX2 k_ → (fun k_ => P0 k_ ∨ P1 k_) k_ ∨ w.heap.size ≤ k_ from fun k_ h_ => .inr (Nat.le_trans HB.out.size (hPX2 k_ h_).1)); replace H0 := Aside0.mk (H0.out.step hk no_S); replace H1 := Aside0.mk (H1.out.step hk no_S); replace HX1 := Aside0.mk (HX1.out.step hk no_S); replace HB := Aside0.mk (below_step HB.out hb); clear hb hk hbox hg hPX2; (try clear hxX1_0 hfX1_0 hxX1_1 hfX1_1); have hxX1_0 := (HX1.out.cell 0).trans (show _ = some (.slice B0 l0.length D0) from rfl); have hfX1_0 := HX1.out.frozen 0; have hxX1_1 := (HX1.out.cell 1).trans (show _ = some (.slice B1 l1.length D1) from rfl); have hfX1_1 := HX1.out.frozen 1; (try clear hxX2_0 hfX2_0 hxX2_1 hfX2_1 hxX2_2 hfX2_2 hxX2_3 hfX2_3); have hxX2_0 := (HX2.out.cell 0).trans (show _ = some (.int .i64 a0) from rfl); have hfX2_0 := HX2.out.frozen 0; have hxX2_1 := (HX2.out.cell 1).trans (show _ = some (.int .i64 a1) from rfl); have hfX2_1 := HX2.out.frozen 1; have hxX2_2 := (HX2.out.cell 2).trans (show _ = some (.int .i64 a2) from rfl); have hfX2_2 := HX2.out.frozen 2; have hxX2_3 := (HX2.out.cell 3).trans (show _ = some (.slice A3 l3.length c3) from rfl); have hfX2_3 := HX2.out.frozen 3) | ((with_reducible refine gate_dst (N := 4) rfl ?_); refine box_event ?hg_3 (N := 4) ?hd_3 (cs := #[.slice none 0 0, .slice none 0 0]) (t := 29) ?hr_3 ?_; (case hd_3 => rfl); (case hg_3 => rfl); (case hr_3 => first | (go_simp; done) | (go_simp; rfl)); intro gX3 hg w2 hbox hb; have hk := kept_below hb; obtain ⟨PX3, hPX3, HLX3⟩ := LB.fresh hg hbox; have HX3 := Aside0.mk HLX3; clear HLX3; have GEX3 := Aside0.mk (show w.heap.size ≤ gX3 from (by rw [hg]; exact HB.out.size)); have D_0_X3 := Aside0.mk (new_apart H0.out.lt hPX3); have D_1_X3 := Aside0.mk (new_apart H1.out.lt hPX3); have D_X1_X3 := Aside0.mk (new_apart HX1.out.lt hPX3); have D_X2_X3 := Aside0.mk (new_apart HX2.out.lt hPX3); have RRX3 := Aside0.mk (show ∀ k_, PX3 k_ → (fun k_ => P0 k_ ∨ P1 k_) k_ ∨ w.heap.size ≤ k_ from fun k_ h_ => .inr (Nat.le_trans HB.out.size (hPX3 k_ h_).1)); replace H0 := Aside0.mk (H0.out.step hk no_S); replace H1 := Aside0.mk (H1.out.step hk no_S); replace HX1 := Aside0.mk (HX1.out.step hk no_S); replace HX2 := Aside0.mk (HX2.out.step hk no_S); replace HB := Aside0.mk (below_step HB.out hb); clear hb hk hbox hg hPX3; (try clear hxX1_0 hfX1_0 hxX1_1 hfX1_1); have hxX1_0 := (HX1.out.cell 0).trans (show _ = some (.slice B0 l0.length D0) from rfl); have hfX1_0 := HX1.out.frozen 0; have hxX1_1 := (HX1.out.cell 1).trans (show _ = some (.slice B1 l1.length D1) from rfl); have hfX1_1 := HX1.out.frozen 1; (try clear hxX2_0 hfX2_0 hxX2_1 hfX2_1 hxX2_2 hfX2_2 hxX2_3 hfX2_3); have hxX2_0 := (HX2.out.cell 0).trans (show _ = some (.int .i64 a0) from rfl); have hfX2_0 := HX2.out.frozen 0; have hxX2_1 := (HX2.out.cell 1).trans (show _ = some (.int .i64 a1) from rfl); have hfX2_1 := HX2.out.frozen 1; have hxX2_2 := (HX2.out.cell 2).trans (show _ = some (.int .i64 a2) from rfl); have hfX2_2 := HX2.out.frozen 2; have hxX2_3 := (HX2.out.cell 3).trans (show _ = some (.slice A3 l3.length c3) from rfl); have hfX2_3 := HX2.out.frozen 3; (try clear hxX3_0 hfX3_0 hxX3_1 hfX3_1); have hxX3_0 := (HX3.out.cell 0).trans (show _ = some (.slice none 0 0) from rfl); have hfX3_0 := HX3.out.frozen 0; have hxX3_1 := (HX3.out.cell 1).trans (show _ = some (.slice none 0 0) from rfl); have hfX3_1 := HX3.out.frozen 1) | ((with_reducible refine gate_callee (f := 50) rfl ?_); refine goesL_ (some 56) rfl rfl Try.func50 (by kernel_rfl) rfl #[.agg #[.slice B0 l0.length D0, .slice B1 l1.length D1]] rfl (by (try simp only [List.map_toArray, List.map_cons, List.map_nil]); first | done | rfl | (simp only [List.length_drop, List.length_take]; rfl)) ?_; (with_reducible refine (spec_l02Bytes.calls k _ _ l0 _ _ l1 t1 _ H0.out.reads H0.out.room H1.out.reads H1.out.room E1.out).mono ?_); rintro e w2 ⟨vF21, rfl, hrF21, hb⟩; refine ⟨_, rfl, ?_⟩; have hk := kept_below hb; obtain ⟨PF21, hPF21, HLF21⟩ := LR.fresh rfl HB.out hrF21; have HF21 := Aside0.mk HLF21; clear HLF21 hrF21; have D_0_F21 := Aside0.mk (new_apart H0.out.lt hPF21); have D_1_F21 := Aside0.mk (new_apart H1.out.lt hPF21); have D_X1_F21 := Aside0.mk (new_apart HX1.out.lt hPF21); have D_X2_F21 := Aside0.mk (new_apart HX2.out.lt hPF21); have D_X3_F21 := Aside0.mk (new_apart HX3.out.lt hPF21); have RRF21 := Aside0.mk (show ∀ k_, PF21 k_ → (fun k_ => P0 k_ ∨ P1 k_) k_ ∨ w.heap.size ≤ k_ from fun k_ h_ => .inr (Nat.le_trans HB.out.size (hPF21 k_ h_).1)); replace H0 := Aside0.mk (H0.out.step hk no_S); replace H1 := Aside0.mk (H1.out.step hk no_S); replace HX1 := Aside0.mk (HX1.out.step hk no_S); replace HX2 := Aside0.mk (HX2.out.step hk no_S); replace HX3 := Aside0.mk (HX3.out.step hk no_S); clear hPF21; obtain ⟨BF21, DF21, e_F21⟩ := HF21.out.val; subst e_F21; replace HB := Aside0.mk (below_step HB.out hb); clear hb hk; (try clear hxX1_0 hfX1_0 hxX1_1 hfX1_1); have hxX1_0 := (HX1.out.cell 0).trans (show _ = some (.slice B0 l0.length D0) from rfl); have hfX1_0 := HX1.out.frozen 0; have hxX1_1 := (HX1.out.cell 1).trans (show _ = some (.slice B1 l1.length D1) from rfl); have hfX1_1 := HX1.out.frozen 1; (try clear hxX2_0 hfX2_0 hxX2_1 hfX2_1 hxX2_2 hfX2_2 hxX2_3 hfX2_3); have hxX2_0 := (HX2.out.cell 0).trans (show _ = some (.int .i64 a0) from rfl); have hfX2_0 := HX2.out.frozen 0; have hxX2_1 := (HX2.out.cell 1).trans (show _ = some (.int .i64 a1) from rfl); have hfX2_1 := HX2.out.frozen 1; have hxX2_2 := (HX2.out.cell 2).trans (show _ = some (.int .i64 a2) from rfl); have hfX2_2 := HX2.out.frozen 2; have hxX2_3 := (HX2.out.cell 3).trans (show _ = some (.slice A3 l3.length c3) from rfl); have hfX2_3 := HX2.out.frozen 3; (try clear hxX3_0 hfX3_0 hxX3_1 hfX3_1); have hxX3_0 := (HX3.out.cell 0).trans (show _ = some (.slice none 0 0) from rfl); have hfX3_0 := HX3.out.frozen 0; have hxX3_1 := (HX3.out.cell 1).trans (show _ = some (.slice none 0 0) from rfl); have hfX3_1 := HX3.out.frozen 1) | ((with_reducible refine gate_callee (f := 80) rfl ?_); refine goesL_ (some 61) rfl rfl Try.func80 (by kernel_rfl) rfl #[.int .i64 a1, .int .i64 0, .int .i64 (t1.length : Int)] rfl (by (try simp only [List.map_toArray, List.map_cons, List.map_nil]); first | done | rfl | (simp only [List.length_drop, List.length_take]; rfl)) ?_; (with_reducible refine (spec_l02In.calls a1 0 (t1.length : Int) true _ E2.out).mono ?_); rintro e w2 ⟨rfl, hq⟩; refine ⟨_, rfl, ?_⟩; have hk := kept_drawn hq; replace H0 := Aside0.mk (H0.out.step hk no_S); replace H1 := Aside0.mk (H1.out.step hk no_S); replace HX1 := Aside0.mk (HX1.out.step hk no_S); replace HX2 := Aside0.mk (HX2.out.step hk no_S); replace HX3 := Aside0.mk (HX3.out.step hk no_S); replace HF21 := Aside0.mk (HF21.out.step hk no_S); replace HB := Aside0.mk (below_drawn HB.out hq); clear hk hq; (try clear hxX1_0 hfX1_0 hxX1_1 hfX1_1); have hxX1_0 := (HX1.out.cell 0).trans (show _ = some (.slice B0 l0.length D0) from rfl); have hfX1_0 := HX1.out.frozen 0; have hxX1_1 := (HX1.out.cell 1).trans (show _ = some (.slice B1 l1.length D1) from rfl); have hfX1_1 := HX1.out.frozen 1; (try clear hxX2_0 hfX2_0 hxX2_1 hfX2_1 hxX2_2 hfX2_2 hxX2_3 hfX2_3); have hxX2_0 := (HX2.out.cell 0).trans (show _ = some (.int .i64 a0) from rfl); have hfX2_0 := HX2.out.frozen 0; have hxX2_1 := (HX2.out.cell 1).trans (show _ = some (.int .i64 a1) from rfl); have hfX2_1 := HX2.out.frozen 1; have hxX2_2 := (HX2.out.cell 2).trans (show _ = some (.int .i64 a2) from rfl); have hfX2_2 := HX2.out.frozen 2; have hxX2_3 := (HX2.out.cell 3).trans (show _ = some (.slice A3 l3.length c3) from rfl); have hfX2_3 := HX2.out.frozen 3; (try clear hxX3_0 hfX3_0 hxX3_1 hfX3_1); have hxX3_0 := (HX3.out.cell 0).trans (show _ = some (.slice none 0 0) from rfl); have hfX3_0 := HX3.out.frozen 0; have hxX3_1 := (HX3.out.cell 1).trans (show _ = some (.slice none 0 0) from rfl); have hfX3_1 := HX3.out.frozen 1))
          obtain ⟨i01, hi01, _, hsz1, _⟩ := info_parts info5
          obtain ⟨hlc1, hcut1, hC1⟩ := cut_take (d := (Kd.int .u8)) (P := Try.prog) 22 5 .i64 Try.underlying22 hi01 BF21 DF21 a1 y1 Ny1.out HF21.out.room C2.out C3.out
          have HT := Aside0.mk (LR.cut HF21.out Ny1.out C2.out C3.out)
          clear hlc1 hC1 hi01 hsz1 HF21
          have D_0_T := D_0_F21
          have D_1_T := D_1_F21
          have D_X1_T := D_X1_F21
          have D_X2_T := D_X2_F21
          have D_X3_T := D_X3_F21
          go_wp2_with (first | ((with_reducible refine gate_store (t := 29) (p := 4) rfl ?_); refine LB.stored HX3.out HB.out GEX3.out 0 [.slice BF21 y1.length DF21, .slice none 0 0] rfl (t := 29) (p := 4) rfl rfl ?hr_29 ?_; (case hr_29 => first | (go_simp; done) | (go_simp; rfl)); intro w2 hx hk hb; replace H0 := Aside0.mk (H0.out.step hk D_0_X3.out); replace H1 := Aside0.mk (H1.out.step hk D_1_X3.out); replace HX1 := Aside0.mk (HX1.out.step hk D_X1_X3.out); replace HX2 := Aside0.mk (HX2.out.step hk D_X2_X3.out); replace HT := Aside0.mk (HT.out.step hk (apart_symm D_X3_T.out)); replace HB := Aside0.mk hb; replace HX3 := Aside0.mk (show LB w2 PX3 gX3 29 #[.slice BF21 y1.length DF21, .slice none 0 0] from hx); clear hk hx hb; (try clear hxX1_0 hfX1_0 hxX1_1 hfX1_1); have hxX1_0 := (HX1.out.cell 0).trans (show _ = some (.slice B0 l0.length D0) from rfl); have hfX1_0 := HX1.out.frozen 0; have hxX1_1 := (HX1.out.cell 1).trans (show _ = some (.slice B1 l1.length D1) from rfl); have hfX1_1 := HX1.out.frozen 1; (try clear hxX2_0 hfX2_0 hxX2_1 hfX2_1 hxX2_2 hfX2_2 hxX2_3 hfX2_3); have hxX2_0 := (HX2.out.cell 0).trans (show _ = some (.int .i64 a0) from rfl); have hfX2_0 := HX2.out.frozen 0; have hxX2_1 := (HX2.out.cell 1).trans (show _ = some (.int .i64 a1) from rfl); have hfX2_1 := HX2.out.frozen 1; have hxX2_2 := (HX2.out.cell 2).trans (show _ = some (.int .i64 a2) from rfl); have hfX2_2 := HX2.out.frozen 2; have hxX2_3 := (HX2.out.cell 3).trans (show _ = some (.slice A3 l3.length c3) from rfl); have hfX2_3 := HX2.out.frozen 3; (try clear hxX3_0 hfX3_0 hxX3_1 hfX3_1); have hxX3_0 := (HX3.out.cell 0).trans (show _ = some (.slice BF21 y1.length DF21) from rfl); have hfX3_0 := HX3.out.frozen 0; have hxX3_1 := (HX3.out.cell 1).trans (show _ = some (.slice none 0 0) from rfl); have hfX3_1 := HX3.out.frozen 1))
          refine bodyPost_ret (results_ct rfl _ _ gX3 29 #[.slice BF21 y1.length DF21, .slice none 0 0] (0, 0) _ rfl HX3.out.2.1 Try.underlying29 rfl (by kernel_rfl)) rfl ?_
          exact ⟨_, _, _, _, rfl, HT.out.toLN, LN.nil _ _ _ _, fun _ hk => .inr hk.2, fun _ hk => hk.elim, fun _ _ hk => hk, HB.out⟩
        · rw [if_neg c3] at h
          exact absurd h (by simp)
      · rw [if_neg c2] at h
        exact absurd h (by simp)
    · rw [if_neg c1] at h
      obtain rfl : t2 = false := by cases t2; rfl; exact absurd rfl c1
      clear c1
      simp only [Option.some.injEq, Prod.mk.injEq] at h
      obtain ⟨rfl, rfl, rfl⟩ := h
      go_enter Try.func75, Try.ntmps75
      go_wp2_with (first | ((with_reducible refine gate_dst (N := 2) rfl ?_); refine box_event ?hg_1 (N := 2) ?hd_1 (cs := #[.slice B0 l0.length D0, .slice B1 l1.length D1]) (t := 29) ?hr_1 ?_; (case hd_1 => rfl); (case hg_1 => rfl); (case hr_1 => first | (go_simp; done) | (go_simp; rfl)); intro gX1 hg w2 hbox hb; have hk := kept_below hb; obtain ⟨PX1, hPX1, HLX1⟩ := LB.fresh hg hbox; have HX1 := Aside0.mk HLX1; clear HLX1; have GEX1 := Aside0.mk (show w.heap.size ≤ gX1 from (by rw [hg]; exact HB.out.size)); have D_0_X1 := Aside0.mk (new_apart H0.out.lt hPX1); have D_1_X1 := Aside0.mk (new_apart H1.out.lt hPX1); have RRX1 := Aside0.mk (show ∀ k_, PX1 k_ → (fun k_ => P0 k_ ∨ P1 k_) k_ ∨ w.heap.size ≤ k_ from fun k_ h_ => .inr (Nat.le_trans HB.out.size (hPX1 k_ h_).1)); replace H0 := Aside0.mk (H0.out.step hk no_S); replace H1 := Aside0.mk (H1.out.step hk no_S); replace HB := Aside0.mk (below_step HB.out hb); clear hb hk hbox hg hPX1; (try clear hxX1_0 hfX1_0 hxX1_1 hfX1_1); have hxX1_0 := (HX1.out.cell 0).trans (show _ = some (.slice B0 l0.length D0) from rfl); have hfX1_0 := HX1.out.frozen 0; have hxX1_1 := (HX1.out.cell 1).trans (show _ = some (.slice B1 l1.length D1) from rfl); have hfX1_1 := HX1.out.frozen 1) | ((with_reducible refine gate_dst (N := 3) rfl ?_); refine box_event ?hg_2 (N := 3) ?hd_2 (cs := #[.int .i64 a0, .int .i64 a1, .int .i64 a2, .slice A3 l3.length c3]) (t := 100) ?hr_2 ?_; (case hd_2 => rfl); (case hg_2 => rfl); (case hr_2 => first | (go_simp; done) | (go_simp; rfl)); intro gX2 hg w2 hbox hb; have hk := kept_below hb; obtain ⟨PX2, hPX2, HLX2⟩ := LB.fresh hg hbox; have HX2 := Aside0.mk HLX2; clear HLX2; have GEX2 := Aside0.mk (show w.heap.size ≤ gX2 from (by rw [hg]; exact HB.out.size)); have D_0_X2 := Aside0.mk (new_apart H0.out.lt hPX2); have D_1_X2 := Aside0.mk (new_apart H1.out.lt hPX2); have D_X1_X2 := Aside0.mk (new_apart HX1.out.lt hPX2); have RRX2 := Aside0.mk (show ∀ k_, PX2 k_ → (fun k_ => P0 k_ ∨ P1 k_) k_ ∨ w.heap.size ≤ k_ from fun k_ h_ => .inr (Nat.le_trans HB.out.size (hPX2 k_ h_).1)); replace H0 := Aside0.mk (H0.out.step hk no_S); replace H1 := Aside0.mk (H1.out.step hk no_S); replace HX1 := Aside0.mk (HX1.out.step hk no_S); replace HB := Aside0.mk (below_step HB.out hb); clear hb hk hbox hg hPX2; (try clear hxX1_0 hfX1_0 hxX1_1 hfX1_1); have hxX1_0 := (HX1.out.cell 0).trans (show _ = some (.slice B0 l0.length D0) from rfl); have hfX1_0 := HX1.out.frozen 0; have hxX1_1 := (HX1.out.cell 1).trans (show _ = some (.slice B1 l1.length D1) from rfl); have hfX1_1 := HX1.out.frozen 1; (try clear hxX2_0 hfX2_0 hxX2_1 hfX2_1 hxX2_2 hfX2_2 hxX2_3 hfX2_3); have hxX2_0 := (HX2.out.cell 0).trans (show _ = some (.int .i64 a0) from rfl); have hfX2_0 := HX2.out.frozen 0; have hxX2_1 := (HX2.out.cell 1).trans (show _ = some (.int .i64 a1) from rfl); have hfX2_1 := HX2.out.frozen 1; have hxX2_2 := (HX2.out.cell 2).trans (show _ = some (.int .i64 a2) from rfl); have hfX2_2 := HX2.out.frozen 2; have hxX2_3 := (HX2.out.cell 3).trans (show _ = some (.slice A3 l3.length c3) from rfl); have hfX2_3 := HX2.out.frozen 3) | ((with_reducible refine gate_dst (N := 4) rfl ?_); refine box_event ?hg_3 (N := 4) ?hd_3 (cs := #[.slice none 0 0, .slice none 0 0]) (t := 29) ?hr_3 ?_; (case hd_3 => rfl); (case hg_3 => rfl); (case hr_3 => first | (go_simp; done) | (go_simp; rfl)); intro gX3 hg w2 hbox hb; have hk := kept_below hb; obtain ⟨PX3, hPX3, HLX3⟩ := LB.fresh hg hbox; have HX3 := Aside0.mk HLX3; clear HLX3; have GEX3 := Aside0.mk (show w.heap.size ≤ gX3 from (by rw [hg]; exact HB.out.size)); have D_0_X3 := Aside0.mk (new_apart H0.out.lt hPX3); have D_1_X3 := Aside0.mk (new_apart H1.out.lt hPX3); have D_X1_X3 := Aside0.mk (new_apart HX1.out.lt hPX3); have D_X2_X3 := Aside0.mk (new_apart HX2.out.lt hPX3); have RRX3 := Aside0.mk (show ∀ k_, PX3 k_ → (fun k_ => P0 k_ ∨ P1 k_) k_ ∨ w.heap.size ≤ k_ from fun k_ h_ => .inr (Nat.le_trans HB.out.size (hPX3 k_ h_).1)); replace H0 := Aside0.mk (H0.out.step hk no_S); replace H1 := Aside0.mk (H1.out.step hk no_S); replace HX1 := Aside0.mk (HX1.out.step hk no_S); replace HX2 := Aside0.mk (HX2.out.step hk no_S); replace HB := Aside0.mk (below_step HB.out hb); clear hb hk hbox hg hPX3; (try clear hxX1_0 hfX1_0 hxX1_1 hfX1_1); have hxX1_0 := (HX1.out.cell 0).trans (show _ = some (.slice B0 l0.length D0) from rfl); have hfX1_0 := HX1.out.frozen 0; have hxX1_1 := (HX1.out.cell 1).trans (show _ = some (.slice B1 l1.length D1) from rfl); have hfX1_1 := HX1.out.frozen 1; (try clear hxX2_0 hfX2_0 hxX2_1 hfX2_1 hxX2_2 hfX2_2 hxX2_3 hfX2_3); have hxX2_0 := (HX2.out.cell 0).trans (show _ = some (.int .i64 a0) from rfl); have hfX2_0 := HX2.out.frozen 0; have hxX2_1 := (HX2.out.cell 1).trans (show _ = some (.int .i64 a1) from rfl); have hfX2_1 := HX2.out.frozen 1; have hxX2_2 := (HX2.out.cell 2).trans (show _ = some (.int .i64 a2) from rfl); have hfX2_2 := HX2.out.frozen 2; have hxX2_3 := (HX2.out.cell 3).trans (show _ = some (.slice A3 l3.length c3) from rfl); have hfX2_3 := HX2.out.frozen 3; (try clear hxX3_0 hfX3_0 hxX3_1 hfX3_1); have hxX3_0 := (HX3.out.cell 0).trans (show _ = some (.slice none 0 0) from rfl); have hfX3_0 := HX3.out.frozen 0; have hxX3_1 := (HX3.out.cell 1).trans (show _ = some (.slice none 0 0) from rfl); have hfX3_1 := HX3.out.frozen 1) | ((with_reducible refine gate_callee (f := 50) rfl ?_); refine goesL_ (some 56) rfl rfl Try.func50 (by kernel_rfl) rfl #[.agg #[.slice B0 l0.length D0, .slice B1 l1.length D1]] rfl (by (try simp only [List.map_toArray, List.map_cons, List.map_nil]); first | done | rfl | (simp only [List.length_drop, List.length_take]; rfl)) ?_; (with_reducible refine (spec_l02Bytes.calls k _ _ l0 _ _ l1 t1 _ H0.out.reads H0.out.room H1.out.reads H1.out.room E1.out).mono ?_); rintro e w2 ⟨vF22, rfl, hrF22, hb⟩; refine ⟨_, rfl, ?_⟩; have hk := kept_below hb; obtain ⟨PF22, hPF22, HLF22⟩ := LR.fresh rfl HB.out hrF22; have HF22 := Aside0.mk HLF22; clear HLF22 hrF22; have D_0_F22 := Aside0.mk (new_apart H0.out.lt hPF22); have D_1_F22 := Aside0.mk (new_apart H1.out.lt hPF22); have D_X1_F22 := Aside0.mk (new_apart HX1.out.lt hPF22); have D_X2_F22 := Aside0.mk (new_apart HX2.out.lt hPF22); have D_X3_F22 := Aside0.mk (new_apart HX3.out.lt hPF22); have RRF22 := Aside0.mk (show ∀ k_, PF22 k_ → (fun k_ => P0 k_ ∨ P1 k_) k_ ∨ w.heap.size ≤ k_ from fun k_ h_ => .inr (Nat.le_trans HB.out.size (hPF22 k_ h_).1)); replace H0 := Aside0.mk (H0.out.step hk no_S); replace H1 := Aside0.mk (H1.out.step hk no_S); replace HX1 := Aside0.mk (HX1.out.step hk no_S); replace HX2 := Aside0.mk (HX2.out.step hk no_S); replace HX3 := Aside0.mk (HX3.out.step hk no_S); clear hPF22; obtain ⟨BF22, DF22, e_F22⟩ := HF22.out.val; subst e_F22; replace HB := Aside0.mk (below_step HB.out hb); clear hb hk; (try clear hxX1_0 hfX1_0 hxX1_1 hfX1_1); have hxX1_0 := (HX1.out.cell 0).trans (show _ = some (.slice B0 l0.length D0) from rfl); have hfX1_0 := HX1.out.frozen 0; have hxX1_1 := (HX1.out.cell 1).trans (show _ = some (.slice B1 l1.length D1) from rfl); have hfX1_1 := HX1.out.frozen 1; (try clear hxX2_0 hfX2_0 hxX2_1 hfX2_1 hxX2_2 hfX2_2 hxX2_3 hfX2_3); have hxX2_0 := (HX2.out.cell 0).trans (show _ = some (.int .i64 a0) from rfl); have hfX2_0 := HX2.out.frozen 0; have hxX2_1 := (HX2.out.cell 1).trans (show _ = some (.int .i64 a1) from rfl); have hfX2_1 := HX2.out.frozen 1; have hxX2_2 := (HX2.out.cell 2).trans (show _ = some (.int .i64 a2) from rfl); have hfX2_2 := HX2.out.frozen 2; have hxX2_3 := (HX2.out.cell 3).trans (show _ = some (.slice A3 l3.length c3) from rfl); have hfX2_3 := HX2.out.frozen 3; (try clear hxX3_0 hfX3_0 hxX3_1 hfX3_1); have hxX3_0 := (HX3.out.cell 0).trans (show _ = some (.slice none 0 0) from rfl); have hfX3_0 := HX3.out.frozen 0; have hxX3_1 := (HX3.out.cell 1).trans (show _ = some (.slice none 0 0) from rfl); have hfX3_1 := HX3.out.frozen 1) | ((with_reducible refine gate_callee (f := 80) rfl ?_); refine goesL_ (some 61) rfl rfl Try.func80 (by kernel_rfl) rfl #[.int .i64 a1, .int .i64 0, .int .i64 (t1.length : Int)] rfl (by (try simp only [List.map_toArray, List.map_cons, List.map_nil]); first | done | rfl | (simp only [List.length_drop, List.length_take]; rfl)) ?_; (with_reducible refine (spec_l02In.calls a1 0 (t1.length : Int) false _ E2.out).mono ?_); rintro e w2 ⟨rfl, hq⟩; refine ⟨_, rfl, ?_⟩; have hk := kept_drawn hq; replace H0 := Aside0.mk (H0.out.step hk no_S); replace H1 := Aside0.mk (H1.out.step hk no_S); replace HX1 := Aside0.mk (HX1.out.step hk no_S); replace HX2 := Aside0.mk (HX2.out.step hk no_S); replace HX3 := Aside0.mk (HX3.out.step hk no_S); replace HF22 := Aside0.mk (HF22.out.step hk no_S); replace HB := Aside0.mk (below_drawn HB.out hq); clear hk hq; (try clear hxX1_0 hfX1_0 hxX1_1 hfX1_1); have hxX1_0 := (HX1.out.cell 0).trans (show _ = some (.slice B0 l0.length D0) from rfl); have hfX1_0 := HX1.out.frozen 0; have hxX1_1 := (HX1.out.cell 1).trans (show _ = some (.slice B1 l1.length D1) from rfl); have hfX1_1 := HX1.out.frozen 1; (try clear hxX2_0 hfX2_0 hxX2_1 hfX2_1 hxX2_2 hfX2_2 hxX2_3 hfX2_3); have hxX2_0 := (HX2.out.cell 0).trans (show _ = some (.int .i64 a0) from rfl); have hfX2_0 := HX2.out.frozen 0; have hxX2_1 := (HX2.out.cell 1).trans (show _ = some (.int .i64 a1) from rfl); have hfX2_1 := HX2.out.frozen 1; have hxX2_2 := (HX2.out.cell 2).trans (show _ = some (.int .i64 a2) from rfl); have hfX2_2 := HX2.out.frozen 2; have hxX2_3 := (HX2.out.cell 3).trans (show _ = some (.slice A3 l3.length c3) from rfl); have hfX2_3 := HX2.out.frozen 3; (try clear hxX3_0 hfX3_0 hxX3_1 hfX3_1); have hxX3_0 := (HX3.out.cell 0).trans (show _ = some (.slice none 0 0) from rfl); have hfX3_0 := HX3.out.frozen 0; have hxX3_1 := (HX3.out.cell 1).trans (show _ = some (.slice none 0 0) from rfl); have hfX3_1 := HX3.out.frozen 1) | ((with_reducible refine gate_store (t := 29) (p := 4) rfl ?_); refine LB.stored HX3.out HB.out GEX3.out 0 [.slice B0 l0.length D0, .slice B1 l1.length D1] rfl (t := 29) (p := 4) rfl rfl ?hr_30 ?_; (case hr_30 => first | (go_simp; done) | (go_simp; rfl)); intro w2 hx hk hb; replace H0 := Aside0.mk (H0.out.step hk D_0_X3.out); replace H1 := Aside0.mk (H1.out.step hk D_1_X3.out); replace HX1 := Aside0.mk (HX1.out.step hk D_X1_X3.out); replace HX2 := Aside0.mk (HX2.out.step hk D_X2_X3.out); replace HF22 := Aside0.mk (HF22.out.step hk (apart_symm D_X3_F22.out)); replace HB := Aside0.mk hb; replace HX3 := Aside0.mk (show LB w2 PX3 gX3 29 #[.slice B0 l0.length D0, .slice B1 l1.length D1] from hx); clear hk hx hb; (try clear hxX1_0 hfX1_0 hxX1_1 hfX1_1); have hxX1_0 := (HX1.out.cell 0).trans (show _ = some (.slice B0 l0.length D0) from rfl); have hfX1_0 := HX1.out.frozen 0; have hxX1_1 := (HX1.out.cell 1).trans (show _ = some (.slice B1 l1.length D1) from rfl); have hfX1_1 := HX1.out.frozen 1; (try clear hxX2_0 hfX2_0 hxX2_1 hfX2_1 hxX2_2 hfX2_2 hxX2_3 hfX2_3); have hxX2_0 := (HX2.out.cell 0).trans (show _ = some (.int .i64 a0) from rfl); have hfX2_0 := HX2.out.frozen 0; have hxX2_1 := (HX2.out.cell 1).trans (show _ = some (.int .i64 a1) from rfl); have hfX2_1 := HX2.out.frozen 1; have hxX2_2 := (HX2.out.cell 2).trans (show _ = some (.int .i64 a2) from rfl); have hfX2_2 := HX2.out.frozen 2; have hxX2_3 := (HX2.out.cell 3).trans (show _ = some (.slice A3 l3.length c3) from rfl); have hfX2_3 := HX2.out.frozen 3; (try clear hxX3_0 hfX3_0 hxX3_1 hfX3_1); have hxX3_0 := (HX3.out.cell 0).trans (show _ = some (.slice B0 l0.length D0) from rfl); have hfX3_0 := HX3.out.frozen 0; have hxX3_1 := (HX3.out.cell 1).trans (show _ = some (.slice B1 l1.length D1) from rfl); have hfX3_1 := HX3.out.frozen 1))
      refine bodyPost_ret (results_ct rfl _ _ gX3 29 #[.slice B0 l0.length D0, .slice B1 l1.length D1] (0, 0) _ rfl HX3.out.2.1 Try.underlying29 rfl (by kernel_rfl)) rfl ?_
      exact ⟨_, _, _, _, rfl, H0.out, H1.out, fun _ hk => .inl (.inl hk), fun _ hk => .inl (.inr hk), D_0_1.out, HB.out⟩
  rw [if_neg k4] at h
  have k4b : (a0 == 4) = false := beq_eq_false_iff_ne.mpr k4
  clear k1 k2 k3 k4
  simp only [Option.some.injEq, Prod.mk.injEq] at h
  obtain ⟨rfl, rfl, rfl⟩ := h
  go_enter Try.func75, Try.ntmps75
  go_wp2_with (first | ((with_reducible refine gate_dst (N := 2) rfl ?_); refine box_event ?hg_1 (N := 2) ?hd_1 (cs := #[.slice B0 l0.length D0, .slice B1 l1.length D1]) (t := 29) ?hr_1 ?_; (case hd_1 => rfl); (case hg_1 => rfl); (case hr_1 => first | (go_simp; done) | (go_simp; rfl)); intro gX1 hg w2 hbox hb; have hk := kept_below hb; obtain ⟨PX1, hPX1, HLX1⟩ := LB.fresh hg hbox; have HX1 := Aside0.mk HLX1; clear HLX1; have GEX1 := Aside0.mk (show w.heap.size ≤ gX1 from (by rw [hg]; exact HB.out.size)); have D_0_X1 := Aside0.mk (new_apart H0.out.lt hPX1); have D_1_X1 := Aside0.mk (new_apart H1.out.lt hPX1); have RRX1 := Aside0.mk (show ∀ k_, PX1 k_ → (fun k_ => P0 k_ ∨ P1 k_) k_ ∨ w.heap.size ≤ k_ from fun k_ h_ => .inr (Nat.le_trans HB.out.size (hPX1 k_ h_).1)); replace H0 := Aside0.mk (H0.out.step hk no_S); replace H1 := Aside0.mk (H1.out.step hk no_S); replace HB := Aside0.mk (below_step HB.out hb); clear hb hk hbox hg hPX1; (try clear hxX1_0 hfX1_0 hxX1_1 hfX1_1); have hxX1_0 := (HX1.out.cell 0).trans (show _ = some (.slice B0 l0.length D0) from rfl); have hfX1_0 := HX1.out.frozen 0; have hxX1_1 := (HX1.out.cell 1).trans (show _ = some (.slice B1 l1.length D1) from rfl); have hfX1_1 := HX1.out.frozen 1) | ((with_reducible refine gate_dst (N := 3) rfl ?_); refine box_event ?hg_2 (N := 3) ?hd_2 (cs := #[.int .i64 a0, .int .i64 a1, .int .i64 a2, .slice A3 l3.length c3]) (t := 100) ?hr_2 ?_; (case hd_2 => rfl); (case hg_2 => rfl); (case hr_2 => first | (go_simp; done) | (go_simp; rfl)); intro gX2 hg w2 hbox hb; have hk := kept_below hb; obtain ⟨PX2, hPX2, HLX2⟩ := LB.fresh hg hbox; have HX2 := Aside0.mk HLX2; clear HLX2; have GEX2 := Aside0.mk (show w.heap.size ≤ gX2 from (by rw [hg]; exact HB.out.size)); have D_0_X2 := Aside0.mk (new_apart H0.out.lt hPX2); have D_1_X2 := Aside0.mk (new_apart H1.out.lt hPX2); have D_X1_X2 := Aside0.mk (new_apart HX1.out.lt hPX2); have RRX2 := Aside0.mk (show ∀ k_, PX2 k_ → (fun k_ => P0 k_ ∨ P1 k_) k_ ∨ w.heap.size ≤ k_ from fun k_ h_ => .inr (Nat.le_trans HB.out.size (hPX2 k_ h_).1)); replace H0 := Aside0.mk (H0.out.step hk no_S); replace H1 := Aside0.mk (H1.out.step hk no_S); replace HX1 := Aside0.mk (HX1.out.step hk no_S); replace HB := Aside0.mk (below_step HB.out hb); clear hb hk hbox hg hPX2; (try clear hxX1_0 hfX1_0 hxX1_1 hfX1_1); have hxX1_0 := (HX1.out.cell 0).trans (show _ = some (.slice B0 l0.length D0) from rfl); have hfX1_0 := HX1.out.frozen 0; have hxX1_1 := (HX1.out.cell 1).trans (show _ = some (.slice B1 l1.length D1) from rfl); have hfX1_1 := HX1.out.frozen 1; (try clear hxX2_0 hfX2_0 hxX2_1 hfX2_1 hxX2_2 hfX2_2 hxX2_3 hfX2_3); have hxX2_0 := (HX2.out.cell 0).trans (show _ = some (.int .i64 a0) from rfl); have hfX2_0 := HX2.out.frozen 0; have hxX2_1 := (HX2.out.cell 1).trans (show _ = some (.int .i64 a1) from rfl); have hfX2_1 := HX2.out.frozen 1; have hxX2_2 := (HX2.out.cell 2).trans (show _ = some (.int .i64 a2) from rfl); have hfX2_2 := HX2.out.frozen 2; have hxX2_3 := (HX2.out.cell 3).trans (show _ = some (.slice A3 l3.length c3) from rfl); have hfX2_3 := HX2.out.frozen 3) | ((with_reducible refine gate_dst (N := 4) rfl ?_); refine box_event ?hg_3 (N := 4) ?hd_3 (cs := #[.slice none 0 0, .slice none 0 0]) (t := 29) ?hr_3 ?_; (case hd_3 => rfl); (case hg_3 => rfl); (case hr_3 => first | (go_simp; done) | (go_simp; rfl)); intro gX3 hg w2 hbox hb; have hk := kept_below hb; obtain ⟨PX3, hPX3, HLX3⟩ := LB.fresh hg hbox; have HX3 := Aside0.mk HLX3; clear HLX3; have GEX3 := Aside0.mk (show w.heap.size ≤ gX3 from (by rw [hg]; exact HB.out.size)); have D_0_X3 := Aside0.mk (new_apart H0.out.lt hPX3); have D_1_X3 := Aside0.mk (new_apart H1.out.lt hPX3); have D_X1_X3 := Aside0.mk (new_apart HX1.out.lt hPX3); have D_X2_X3 := Aside0.mk (new_apart HX2.out.lt hPX3); have RRX3 := Aside0.mk (show ∀ k_, PX3 k_ → (fun k_ => P0 k_ ∨ P1 k_) k_ ∨ w.heap.size ≤ k_ from fun k_ h_ => .inr (Nat.le_trans HB.out.size (hPX3 k_ h_).1)); replace H0 := Aside0.mk (H0.out.step hk no_S); replace H1 := Aside0.mk (H1.out.step hk no_S); replace HX1 := Aside0.mk (HX1.out.step hk no_S); replace HX2 := Aside0.mk (HX2.out.step hk no_S); replace HB := Aside0.mk (below_step HB.out hb); clear hb hk hbox hg hPX3; (try clear hxX1_0 hfX1_0 hxX1_1 hfX1_1); have hxX1_0 := (HX1.out.cell 0).trans (show _ = some (.slice B0 l0.length D0) from rfl); have hfX1_0 := HX1.out.frozen 0; have hxX1_1 := (HX1.out.cell 1).trans (show _ = some (.slice B1 l1.length D1) from rfl); have hfX1_1 := HX1.out.frozen 1; (try clear hxX2_0 hfX2_0 hxX2_1 hfX2_1 hxX2_2 hfX2_2 hxX2_3 hfX2_3); have hxX2_0 := (HX2.out.cell 0).trans (show _ = some (.int .i64 a0) from rfl); have hfX2_0 := HX2.out.frozen 0; have hxX2_1 := (HX2.out.cell 1).trans (show _ = some (.int .i64 a1) from rfl); have hfX2_1 := HX2.out.frozen 1; have hxX2_2 := (HX2.out.cell 2).trans (show _ = some (.int .i64 a2) from rfl); have hfX2_2 := HX2.out.frozen 2; have hxX2_3 := (HX2.out.cell 3).trans (show _ = some (.slice A3 l3.length c3) from rfl); have hfX2_3 := HX2.out.frozen 3; (try clear hxX3_0 hfX3_0 hxX3_1 hfX3_1); have hxX3_0 := (HX3.out.cell 0).trans (show _ = some (.slice none 0 0) from rfl); have hfX3_0 := HX3.out.frozen 0; have hxX3_1 := (HX3.out.cell 1).trans (show _ = some (.slice none 0 0) from rfl); have hfX3_1 := HX3.out.frozen 1) | ((with_reducible refine gate_store (t := 29) (p := 4) rfl ?_); refine LB.stored HX3.out HB.out GEX3.out 0 [.slice B0 l0.length D0, .slice B1 l1.length D1] rfl (t := 29) (p := 4) rfl rfl ?hr_31 ?_; (case hr_31 => first | (go_simp; done) | (go_simp; rfl)); intro w2 hx hk hb; replace H0 := Aside0.mk (H0.out.step hk D_0_X3.out); replace H1 := Aside0.mk (H1.out.step hk D_1_X3.out); replace HX1 := Aside0.mk (HX1.out.step hk D_X1_X3.out); replace HX2 := Aside0.mk (HX2.out.step hk D_X2_X3.out); replace HB := Aside0.mk hb; replace HX3 := Aside0.mk (show LB w2 PX3 gX3 29 #[.slice B0 l0.length D0, .slice B1 l1.length D1] from hx); clear hk hx hb; (try clear hxX1_0 hfX1_0 hxX1_1 hfX1_1); have hxX1_0 := (HX1.out.cell 0).trans (show _ = some (.slice B0 l0.length D0) from rfl); have hfX1_0 := HX1.out.frozen 0; have hxX1_1 := (HX1.out.cell 1).trans (show _ = some (.slice B1 l1.length D1) from rfl); have hfX1_1 := HX1.out.frozen 1; (try clear hxX2_0 hfX2_0 hxX2_1 hfX2_1 hxX2_2 hfX2_2 hxX2_3 hfX2_3); have hxX2_0 := (HX2.out.cell 0).trans (show _ = some (.int .i64 a0) from rfl); have hfX2_0 := HX2.out.frozen 0; have hxX2_1 := (HX2.out.cell 1).trans (show _ = some (.int .i64 a1) from rfl); have hfX2_1 := HX2.out.frozen 1; have hxX2_2 := (HX2.out.cell 2).trans (show _ = some (.int .i64 a2) from rfl); have hfX2_2 := HX2.out.frozen 2; have hxX2_3 := (HX2.out.cell 3).trans (show _ = some (.slice A3 l3.length c3) from rfl); have hfX2_3 := HX2.out.frozen 3; (try clear hxX3_0 hfX3_0 hxX3_1 hfX3_1); have hxX3_0 := (HX3.out.cell 0).trans (show _ = some (.slice B0 l0.length D0) from rfl); have hfX3_0 := HX3.out.frozen 0; have hxX3_1 := (HX3.out.cell 1).trans (show _ = some (.slice B1 l1.length D1) from rfl); have hfX3_1 := HX3.out.frozen 1))
  refine bodyPost_ret (results_ct rfl _ _ gX3 29 #[.slice B0 l0.length D0, .slice B1 l1.length D1] (0, 0) _ rfl HX3.out.2.1 Try.underlying29 rfl (by kernel_rfl)) rfl ?_
  exact ⟨_, _, _, _, rfl, H0.out, H1.out, fun _ hk => .inl (.inl hk), fun _ hk => .inl (.inr hk), D_0_1.out, HB.out⟩

end Go.Proofs.Ytfclobfoghbblaa.PFnDisk
