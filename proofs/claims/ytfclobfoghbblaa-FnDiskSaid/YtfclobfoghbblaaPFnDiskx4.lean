-- written by a program of this session (a copy of the print, widened: wip/patchprint.py)
import Derived.Test.YtfclobfoghbblaaPFnDiskx0
import Derived.Test.YtfclobfoghbblaaHw
import Derived.Deep.RegionHeld3
import Derived.Deep.Cut
namespace Go.Proofs.Ytfclobfoghbblaa.PFnDisk
open Go.RowKit Go.Proofs.Ytfclobfoghbblaa.Lawful Go.Proofs.YtfclobfoghbblaaW.PrintWords Go.Proofs.YtfclobfoghbblaaW.PrintLast Go.Proofs.YtfclobfoghbblaaW.PrintMore
attribute [local go_sem] max2_int min2_int max_two min_two max_three min_three max_four min_four   -- for this text's walks alone
set_option linter.unusedVariables false
set_option linter.unusedSimpArgs false

/-! ### spec_l02Crash: function 66 -/
def spec_l02Crash.l0 : Nat → Int → Int → List Int → Int → List Int → List (List Int) → Option (List Int × (List (List Int)))
  | 0, _, _, _, _, _, _ => none
  | k + 1, x1, x2, x7, x8, x291000, x291001 => if x8 < (x291001.length : Int) then (if x8 < x1 then (if 0 ≤ x8 then (if x7.length + (rd_L1 x291001 x8).length < 140737488355328 then (spec_l02Crash.l0 k x1 x2 (x7 ++ (rd_L1 x291001 x8)) (wrap64 (x8 + 1)) x291000 x291001) else (none)) else (none)) else (if x8 = x1 then (if 0 ≤ x8 then (if 0 ≤ (mn x2 ((rd_L1 x291001 x8).length : Int)) then (if (mn x2 ((rd_L1 x291001 x8).length : Int)) ≤ ((rd_L1 x291001 x8).length : Int) then (if x7.length + ((rd_L1 x291001 x8).take ((mn x2 ((rd_L1 x291001 x8).length : Int)) : Int).toNat).length < 140737488355328 then (spec_l02Crash.l0 k x1 x2 (x7 ++ ((rd_L1 x291001 x8).take ((mn x2 ((rd_L1 x291001 x8).length : Int)) : Int).toNat)) (wrap64 (x8 + 1)) x291000 x291001) else (none)) else (none)) else (none)) else (none)) else (spec_l02Crash.l0 k x1 x2 x7 (wrap64 (x8 + 1)) x291000 x291001))) else (some (x7, ([] : List (List Int))))
def spec_l02Crash.f (k : Nat) (l0_0 : List Int) (l0_1 : List (List Int)) (a1 : Int) (a2 : Int) : Option (List Int × (List (List Int))) := (some (([] : List Int) : List Int)).bind fun y292 => (if y292.length + l0_0.length < 140737488355328 then (spec_l02Crash.l0 k a1 a2 (y292 ++ l0_0) 0 l0_0 l0_1) else (none))
theorem spec_l02Crash.mono_l : ∀ k, (∀ y0 y1 y2 y3 y4 y5, LeO (spec_l02Crash.l0 k y0 y1 y2 y3 y4 y5) (spec_l02Crash.l0 (k + 1) y0 y1 y2 y3 y4 y5))
  | 0 => fun _ _ _ _ _ _ r h => by simp [spec_l02Crash.l0] at h
  | k + 1 => by
    have ih0 := spec_l02Crash.mono_l k
    · intro y0 y1 y2 y3 y4 y5
      unfold spec_l02Crash.l0
      repeat' first
      | (with_reducible exact ih0 _ _ _ _ _ _)
      | (with_reducible exact LeO.refl _)
      | (with_reducible exact LeO.none _)
      | (with_reducible refine LeO.ite ?_ ?_)
      | (with_reducible refine LeO.bind ?_ (fun _ => ?_))
      | exact ih0 _ _ _ _ _ _
      | exact LeO.none _
      | refine LeO.ite ?_ ?_
      | refine LeO.bind ?_ (fun _ => ?_)
theorem spec_l02Crash.mono : ∀ a0 a1 a2 a3 k, LeO (spec_l02Crash.f k a0 a1 a2 a3) (spec_l02Crash.f (k + 1) a0 a1 a2 a3) := by
  intro a0 a1 a2 a3 k
  have ih0 := spec_l02Crash.mono_l k
  unfold spec_l02Crash.f
  repeat' first
      | (with_reducible exact ih0 _ _ _ _ _ _)
      | (with_reducible exact LeO.refl _)
      | (with_reducible exact LeO.none _)
      | (with_reducible refine LeO.ite ?_ ?_)
      | (with_reducible refine LeO.bind ?_ (fun _ => ?_))
      | exact ih0 _ _ _ _ _ _
      | exact LeO.none _
      | refine LeO.ite ?_ ?_
      | refine LeO.bind ?_ (fun _ => ?_)
def spec_l02Crash.T8 : Bool × List (List Nat × List Nat) := (true, [([], []), ([], []), ([1], [1]), ([], []), ([2, 3], [2, 3]), ([4], [4]), ([], []), ([], []), ([7], [7]), ([], []), ([8, 9], [8, 9]), ([10], [10]), ([11], [11]), ([6, 12], [6, 12]), ([5, 13], [5, 13]), ([0, 14], [0, 14]), ([15, 15, 0, 1, 2, 3, 4, 5, 6, 7, 8, 9, 10, 11, 12, 13, 14, 15], [0, 15])])
def spec_l02Crash.B8 : List Nat := [0, 0, 2, 0, 14, 30, 0, 0, 128, 0, 896, 1920, 3968, 8128, 16382, 32767, 65535]
theorem spec_l02Crash.tab8 : rtab .any (opsOf Try.f66 8) = spec_l02Crash.T8 := by kernel_rfl
theorem spec_l02Crash.bits8 : waitsOk spec_l02Crash.T8.2 spec_l02Crash.B8 = true := by kernel_rfl
set_option maxHeartbeats 8000000 in
set_option maxRecDepth 100000 in
theorem spec_l02Crash.calls (k : Nat) (A0_0 : Option Addr) (c0_0 : Nat) (l0_0 : List Int) (A0_1 : Option Addr) (c0_1 : Nat) (l0_1 : List (List Int)) (a1 : Int) (a2 : Int) (r1 : List Int) (r2 : List (List Int)) (w : World) (hr0_0 : Kd.C (Kd.int .u8) w A0_0 l0_0.length l0_0) (hc0_0 : l0_0.length ≤ c0_0) (hr0_1 : Kd.C (Kd.slice 5 (Kd.int .u8)) w A0_1 l0_1.length l0_1) (hc0_1 : l0_1.length ≤ c0_1) (h : spec_l02Crash.f k l0_0 l0_1 a1 a2 = some (r1, r2)) :
    Calls Try.prog 66 #[.agg #[.slice A0_0 l0_0.length c0_0, .slice A0_1 l0_1.length c0_1], .int .i64 a1, .int .i64 a2] w fun e w' => ∃ v0_ v1_ : Value, e = .returned (.agg #[v0_, v1_]) ∧ Kd.R (Kd.int .u8) 5 w' w.heap.size (fun _ => True) v0_ r1 ∧ Kd.S (Kd.slice 5 (Kd.int .u8)) 22 w' w.heap.size (fun k_ => some k_ ≠ (v0_ : Value).ownBlock) v1_ r2 ∧ Below w.heap.size w w' := by
  have hu := Try.underlying29
  have HB := Aside0.mk (Below.refl w.heap.size w)
  unfold spec_l02Crash.f at h
  simp only [Option.bind_some] at h
  obtain ⟨yb, hyb⟩ : ∃ y_ : List Int, y_ = [] := ⟨_, rfl⟩
  rw [← hyb] at h
  have Nyb := Aside0.mk hyb
  by_cases c0 : yb.length + l0_0.length < 140737488355328
  · rw [if_pos c0] at h
    have LM0 := Aside0.mk c0
    obtain ⟨y1, hy1⟩ : ∃ y_ : List Int, y_ = yb ++ l0_0 := ⟨_, rfl⟩
    rw [← hy1] at h
    have Ny1 := Aside0.mk hy1
    have H' := Aside0.mk h
    have HR0 := Aside0.mk hr0_0
    have HL0 := Aside0.mk hc0_0
    have HL1 := Aside0.mk hc0_1
    have HR1 := Aside0.mk hr0_1
    clear h hyb hy1 c0 hr0_0 hc0_0 hc0_1 hr0_1
    go_enter Try.func66, Try.ntmps66
    go_wp2_with (first | ((with_reducible refine gate_dst (N := 3) rfl ?_); refine box_event ?hg_1 (N := 3) ?hd_1 (cs := #[.slice A0_0 l0_0.length c0_0, .slice A0_1 l0_1.length c0_1]) (t := 29) ?hr_1 ?_; (case hd_1 => rfl); (case hg_1 => rfl); (case hr_1 => first | (go_simp; done) | (go_simp; rfl)); intro gX1 hg w2 hbox hb; have hk := kept_below hb; obtain ⟨PX1, hPX1, HLX1⟩ := LB.fresh hg hbox; have HX1 := Aside0.mk HLX1; clear HLX1; have GEX1 := Aside0.mk (show w.heap.size ≤ gX1 from (by rw [hg]; exact HB.out.size)); replace HB := Aside0.mk (below_step HB.out hb); clear hb hk hbox hg hPX1; (try clear hxX1_0 hfX1_0 hxX1_1 hfX1_1); have hxX1_0 := (HX1.out.cell 0).trans (show _ = some (.slice A0_0 l0_0.length c0_0) from rfl); have hfX1_0 := HX1.out.frozen 0; have hxX1_1 := (HX1.out.cell 1).trans (show _ = some (.slice A0_1 l0_1.length c0_1) from rfl); have hfX1_1 := HX1.out.frozen 1) | ((with_reducible refine gate_dst (N := 6) rfl ?_); refine box_event ?hg_2 (N := 6) ?hd_2 (cs := #[.slice none 0 0, .slice none 0 0]) (t := 29) ?hr_2 ?_; (case hd_2 => rfl); (case hg_2 => rfl); (case hr_2 => first | (go_simp; done) | (go_simp; rfl)); intro gX2 hg w2 hbox hb; have hk := kept_below hb; obtain ⟨PX2, hPX2, HLX2⟩ := LB.fresh hg hbox; have HX2 := Aside0.mk HLX2; clear HLX2; have GEX2 := Aside0.mk (show w.heap.size ≤ gX2 from (by rw [hg]; exact HB.out.size)); have D_X1_X2 := Aside0.mk (new_apart HX1.out.lt hPX2); replace HX1 := Aside0.mk (HX1.out.step hk no_S); replace HB := Aside0.mk (below_step HB.out hb); clear hb hk hbox hg hPX2; (try clear hxX1_0 hfX1_0 hxX1_1 hfX1_1); have hxX1_0 := (HX1.out.cell 0).trans (show _ = some (.slice A0_0 l0_0.length c0_0) from rfl); have hfX1_0 := HX1.out.frozen 0; have hxX1_1 := (HX1.out.cell 1).trans (show _ = some (.slice A0_1 l0_1.length c0_1) from rfl); have hfX1_1 := HX1.out.frozen 1; (try clear hxX2_0 hfX2_0 hxX2_1 hfX2_1); have hxX2_0 := (HX2.out.cell 0).trans (show _ = some (.slice none 0 0) from rfl); have hfX2_0 := HX2.out.frozen 0; have hxX2_1 := (HX2.out.cell 1).trans (show _ = some (.slice none 0 0) from rfl); have hfX2_1 := HX2.out.frozen 1) | ((with_reducible refine gate_dst (N := 9) rfl ?_); refine Kd.R_lit (Kd.int .u8) _ 5 ?hg_3 (N := 9) ?hd_3 (xs := ([] : List Int)) (inner := []) (ok := fun _ => True) (okp := fun _ => True) ?hr_3 ?hp_3 (fun _ hk => hk) trivial (Below.refl _ _) (Nat.le_refl _) (by simp) ?_; (case hd_3 => rfl); (case hg_3 => rfl); (case hr_3 => first | (go_simp; done) | (go_simp; rfl)); (case hp_3 => exact (Reps.none _ _)); intro vF3 w2 hrF3 hb hg_ hnew_; clear hg_ hnew_; rw [← Nyb.out] at hrF3; have hk := kept_below hb; obtain ⟨PF3, hPF3, HLF3⟩ := LR.fresh rfl HB.out hrF3; have HF3 := Aside0.mk HLF3; clear HLF3 hrF3; have D_X1_F3 := Aside0.mk (new_apart HX1.out.lt hPF3); have D_X2_F3 := Aside0.mk (new_apart HX2.out.lt hPF3); replace HX1 := Aside0.mk (HX1.out.step hk no_S); replace HX2 := Aside0.mk (HX2.out.step hk no_S); clear hPF3; obtain ⟨BF3, DF3, e_F3⟩ := HF3.out.val; subst e_F3; replace HB := Aside0.mk (below_step HB.out hb); clear hb hk; (try clear hxX1_0 hfX1_0 hxX1_1 hfX1_1); have hxX1_0 := (HX1.out.cell 0).trans (show _ = some (.slice A0_0 l0_0.length c0_0) from rfl); have hfX1_0 := HX1.out.frozen 0; have hxX1_1 := (HX1.out.cell 1).trans (show _ = some (.slice A0_1 l0_1.length c0_1) from rfl); have hfX1_1 := HX1.out.frozen 1; (try clear hxX2_0 hfX2_0 hxX2_1 hfX2_1); have hxX2_0 := (HX2.out.cell 0).trans (show _ = some (.slice none 0 0) from rfl); have hfX2_0 := HX2.out.frozen 0; have hxX2_1 := (HX2.out.cell 1).trans (show _ = some (.slice none 0 0) from rfl); have hfX2_1 := HX2.out.frozen 1) | ((with_reducible refine gate_builtin (b := .append) (xs := #[.tmp 9, .tmp 11]) rfl ?_); at_builtin; refine LR.append_read (Kd.int .u8) (w0 := w) rfl (.tmp 9) (.tmp 11) 22 5 (.int .u8 0) 1 rfl Try.underlying22 info5 rfl (by decide) (by omega) (.slice BF3 yb.length DF3) yb l0_0 _ _ _ rfl rfl (fun _ _ h_ => h_) HF3.out (Kd.C_below HR0.out HB.out) HB.out ?aL_4 ?_; (case aL_4 => have := LM0.out; omega); intro PF4 v_ w2 HL hb hk hR; have D_X1_F4 := Aside0.mk (apart_app hR HX1.out.lt D_X1_F3.out); have D_X2_F4 := Aside0.mk (apart_app hR HX2.out.lt D_X2_F3.out); replace HX1 := Aside0.mk (HX1.out.step hk D_X1_F3.out); replace HX2 := Aside0.mk (HX2.out.step hk D_X2_F3.out); rw [← Ny1.out] at HL; have HF4 := Aside0.mk HL; replace HB := Aside0.mk hb; clear hR HL hb hk; clear HF3; obtain ⟨BF4, DF4, e_F4⟩ := HF4.out.val; subst e_F4; (try clear hxX1_0 hfX1_0 hxX1_1 hfX1_1); have hxX1_0 := (HX1.out.cell 0).trans (show _ = some (.slice A0_0 l0_0.length c0_0) from rfl); have hfX1_0 := HX1.out.frozen 0; have hxX1_1 := (HX1.out.cell 1).trans (show _ = some (.slice A0_1 l0_1.length c0_1) from rfl); have hfX1_1 := HX1.out.frozen 1; (try clear hxX2_0 hfX2_0 hxX2_1 hfX2_1); have hxX2_0 := (HX2.out.cell 0).trans (show _ = some (.slice none 0 0) from rfl); have hfX2_0 := HX2.out.frozen 0; have hxX2_1 := (HX2.out.cell 1).trans (show _ = some (.slice none 0 0) from rfl); have hfX2_1 := HX2.out.frozen 1))
    go_loopg [7, 8] k (fun kq v7 v8 w' => ∃ (x7 : List Int) (x8 : Int) (P7 : Nat → Prop), v8 = .int .i64 x8 ∧ Aside0 (spec_l02Crash.l0 kq a1 a2 x7 x8 l0_0 l0_1 = some (r1, r2)) ∧ Aside0 (kq ≤ k) ∧ Aside0 (LR (Kd.int .u8) 5 w' w.heap.size P7 v7 x7) ∧ Aside0 (LB w' PX1 gX1 29 #[.slice A0_0 l0_0.length c0_0, .slice A0_1 l0_1.length c0_1]) ∧ Aside0 (LB w' PX2 gX2 29 #[.slice none 0 0, .slice none 0 0]) ∧ Aside0 (∀ k_, PX1 k_ → ¬ P7 k_) ∧ Aside0 (∀ k_, PX2 k_ → ¬ P7 k_) ∧ Aside0 (Below w.heap.size w w'))
    case atStart => exact ⟨y1, 0, PF4, rfl, H', ⟨Nat.le_refl _⟩, HF4, HX1, HX2, ⟨D_X1_F4.out⟩, ⟨D_X2_F4.out⟩, HB⟩
    case round =>
      clear H' HB HX1 HX2 HF4 hxX1_0 hfX1_0 hxX1_1 hfX1_1 hxX2_0 hfX2_0 hxX2_1 hfX2_1
      obtain ⟨x7, x8, P7, rfl, HA, HK1, H7, HX1, HX2, D_X1_7, D_X2_7, HB⟩ := hrel
      cases gk with
      | zero => exact absurd HA.out (by simp [spec_l02Crash.l0])
      | succ k1 =>
        have H := HA.out
        clear HA
        simp only [spec_l02Crash.l0] at H
        obtain ⟨B7, D7, e_7⟩ := H7.out.val
        subst e_7
        by_cases c1 : x8 < (l0_1.length : Int)
        · rw [if_pos c1] at H
          have cb1 : decide (x8 < (l0_1.length : Int)) = true := decide_eq_true c1
          have C1 := Aside0.mk c1
          by_cases c3 : x8 < a1
          · rw [if_pos c3] at H
            have cb3 : decide (x8 < a1) = true := decide_eq_true c3
            clear c3
            by_cases c2 : 0 ≤ x8
            · rw [if_pos c2] at H
              obtain ⟨adx, Ax, cx, ex, hx, hlx, hix⟩ := at_L1 HR1.out x8 c2 C1.out
              cases ex
              have HX := Aside0.mk hx
              replace hx := (HB.out.cell (World.block_lt_of_cell? w _ hx)).trans hx
              obtain ⟨z, hz⟩ : ∃ z, z = rd_L1 l0_1 x8 := ⟨_, rfl⟩
              rw [← hz] at H hx hlx hix HX
              have HIX := Aside0.mk hix
              have HLX := Aside0.mk hlx
              clear hix hlx hz
              have cb2 : decide (0 ≤ x8) = true := decide_eq_true c2
              have C2 := Aside0.mk c2
              replace c2 := eq_true c2
              have q1 := eq_true C1.out
              by_cases c4 : x7.length + z.length < 140737488355328
              · rw [if_pos c4] at H
                have LM4 := Aside0.mk c4
                obtain ⟨y2, hy2⟩ : ∃ y_ : List Int, y_ = x7 ++ z := ⟨_, rfl⟩
                rw [← hy2] at H
                have Ny2 := Aside0.mk hy2
                have H' := Aside0.mk H
                clear H hy2 c4 c1
                (try clear hxX1_0 hfX1_0 hxX1_1 hfX1_1)
                have hxX1_0 := (HX1.out.cell 0).trans (show _ = some (.slice A0_0 l0_0.length c0_0) from rfl)
                have hfX1_0 := HX1.out.frozen 0
                have hxX1_1 := (HX1.out.cell 1).trans (show _ = some (.slice (some adx) l0_1.length c0_1) from rfl)
                have hfX1_1 := HX1.out.frozen 1
                (try clear hxX2_0 hfX2_0 hxX2_1 hfX2_1)
                have hxX2_0 := (HX2.out.cell 0).trans (show _ = some (.slice none 0 0) from rfl)
                have hfX2_0 := HX2.out.frozen 0
                have hxX2_1 := (HX2.out.cell 1).trans (show _ = some (.slice none 0 0) from rfl)
                have hfX2_1 := HX2.out.frozen 1
                go_wp2_with (first | ((with_reducible refine gate_builtin (b := .append) (xs := #[.tmp 23, .tmp 28]) rfl ?_); at_builtin; refine LR.append_read (Kd.int .u8) (w0 := w) rfl (.tmp 23) (.tmp 28) 22 5 (.int .u8 0) 1 rfl Try.underlying22 info5 rfl (by decide) (by omega) (.slice B7 x7.length D7) x7 z _ _ _ rfl rfl (fun _ _ h_ => h_) H7.out (Kd.C_below HIX.out HB.out) HB.out ?aL_5 ?_; (case aL_5 => have := LM4.out; omega); intro PF5 v_ w2 HL hb hk hR; have D_X1_F5 := Aside0.mk (apart_app hR HX1.out.lt D_X1_7.out); have D_X2_F5 := Aside0.mk (apart_app hR HX2.out.lt D_X2_7.out); replace HX1 := Aside0.mk (HX1.out.step hk D_X1_7.out); replace HX2 := Aside0.mk (HX2.out.step hk D_X2_7.out); rw [← Ny2.out] at HL; have HF5 := Aside0.mk HL; replace HB := Aside0.mk hb; clear hR HL hb hk; clear H7; obtain ⟨BF5, DF5, e_F5⟩ := HF5.out.val; subst e_F5; (try clear hxX1_0 hfX1_0 hxX1_1 hfX1_1); have hxX1_0 := (HX1.out.cell 0).trans (show _ = some (.slice A0_0 l0_0.length c0_0) from rfl); have hfX1_0 := HX1.out.frozen 0; have hxX1_1 := (HX1.out.cell 1).trans (show _ = some (.slice (some adx) l0_1.length c0_1) from rfl); have hfX1_1 := HX1.out.frozen 1; (try clear hxX2_0 hfX2_0 hxX2_1 hfX2_1); have hxX2_0 := (HX2.out.cell 0).trans (show _ = some (.slice none 0 0) from rfl); have hfX2_0 := HX2.out.frozen 0; have hxX2_1 := (HX2.out.cell 1).trans (show _ = some (.slice none 0 0) from rfl); have hfX2_1 := HX2.out.frozen 1))
                go_roundg k1
                case measure => have := HK1.out; omega
                case rel => exact ⟨y2, wrap64 (x8 + 1), PF5, rfl, H', ⟨by have := HK1.out; omega⟩, HF5, HX1, HX2, ⟨D_X1_F5.out⟩, ⟨D_X2_F5.out⟩, HB⟩
              · rw [if_neg c4] at H
                exact absurd H (by simp)
            · rw [if_neg c2] at H
              exact absurd H (by simp)
          · rw [if_neg c3] at H
            have cb3 : decide (x8 < a1) = false := decide_eq_false c3
            clear c3
            by_cases c5 : x8 = a1
            · rw [if_pos c5] at H
              have cb5 : (x8 == a1) = true := beq_iff_eq.mpr c5
              clear c5
              by_cases c2 : 0 ≤ x8
              · rw [if_pos c2] at H
                obtain ⟨adx, Ax, cx, ex, hx, hlx, hix⟩ := at_L1 HR1.out x8 c2 C1.out
                cases ex
                have HX := Aside0.mk hx
                replace hx := (HB.out.cell (World.block_lt_of_cell? w _ hx)).trans hx
                obtain ⟨z, hz⟩ : ∃ z, z = rd_L1 l0_1 x8 := ⟨_, rfl⟩
                rw [← hz] at H hx hlx hix HX
                have HIX := Aside0.mk hix
                have HLX := Aside0.mk hlx
                clear hix hlx hz
                have cb2 : decide (0 ≤ x8) = true := decide_eq_true c2
                have C2 := Aside0.mk c2
                replace c2 := eq_true c2
                have q1 := eq_true C1.out
                obtain ⟨m2, hm2⟩ : ∃ m, m = mn a2 (z.length : Int) := ⟨_, rfl⟩
                rw [← hm2] at H
                have hmw2 : (if (z.length : Int) < a2 then (z.length : Int) else a2) = m2 := hm2.symm
                clear hm2
                by_cases c6 : 0 ≤ m2
                · rw [if_pos c6] at H
                  by_cases c7 : m2 ≤ (z.length : Int)
                  · rw [if_pos c7] at H
                    obtain ⟨y3, hy3⟩ : ∃ y_ : List Int, y_ = z.take m2.toNat := ⟨_, rfl⟩
                    rw [← hy3] at H
                    by_cases c8 : x7.length + y3.length < 140737488355328
                    · rw [if_pos c8] at H
                      have LM8 := Aside0.mk c8
                      obtain ⟨i02, hi02, _, hsz2, _⟩ := info_parts info5
                      obtain ⟨hlc2, hcut2, hC2⟩ := cut_take (d := (Kd.int .u8)) (P := Try.prog) 22 5 .i64 Try.underlying22 hi02 Ax cx m2 y3 hy3 HLX.out c6 c7
                      have HLC2 := Aside0.mk hlc2
                      have HC2 := Aside0.mk (hC2 _ HIX.out)
                      obtain ⟨y4, hy4⟩ : ∃ y_ : List Int, y_ = x7 ++ y3 := ⟨_, rfl⟩
                      rw [← hy4] at H
                      have Ny4 := Aside0.mk hy4
                      have H' := Aside0.mk H
                      clear H hy4 hy3 c8 c6 c7 hlc2 hC2 hi02 hsz2 c1
                      (try clear hxX1_0 hfX1_0 hxX1_1 hfX1_1)
                      have hxX1_0 := (HX1.out.cell 0).trans (show _ = some (.slice A0_0 l0_0.length c0_0) from rfl)
                      have hfX1_0 := HX1.out.frozen 0
                      have hxX1_1 := (HX1.out.cell 1).trans (show _ = some (.slice (some adx) l0_1.length c0_1) from rfl)
                      have hfX1_1 := HX1.out.frozen 1
                      (try clear hxX2_0 hfX2_0 hxX2_1 hfX2_1)
                      have hxX2_0 := (HX2.out.cell 0).trans (show _ = some (.slice none 0 0) from rfl)
                      have hfX2_0 := HX2.out.frozen 0
                      have hxX2_1 := (HX2.out.cell 1).trans (show _ = some (.slice none 0 0) from rfl)
                      have hfX2_1 := HX2.out.frozen 1
                      go_upto_region 8 with (fail)
                      refine start_ (n := 17) (S := fun w' => w'.cell? ⟨gX1, 1, none⟩ = some (.slice (some adx) l0_1.length c0_1) ∧ w'.cell? (adx.add x8.toNat) = some (.slice Ax z.length cx)) (ds := []) #[false, false, false, false, false, false, false, false, false, false, false, false, false, false, false, false, false] (by kernel_rfl) rfl rfl ⟨hxX1_1, ((HB.out.cell (World.block_lt_of_cell? w _ HX.out)).trans HX.out)⟩ (fun hHeld => ?_)
                      refine with_tabW spec_l02Crash.tab8 spec_l02Crash.bits8 (fun HT_ HW_ => ?_)
                      generalize hwd_ : World.drew wr = wd_ at hHeld ⊢
                      have hk := kept_drew hwd_
                      replace HX1 := Aside0.mk (HX1.out.step hk no_S)
                      replace HX2 := Aside0.mk (HX2.out.step hk no_S)
                      replace H7 := Aside0.mk (H7.out.step hk no_S)
                      replace HB := Aside0.mk (below_drewd HB.out hwd_)
                      clear hk hwd_
                      (try clear hxX1_0 hfX1_0 hxX1_1 hfX1_1)
                      have hxX1_0 := (HX1.out.cell 0).trans (show _ = some (.slice A0_0 l0_0.length c0_0) from rfl)
                      have hfX1_0 := HX1.out.frozen 0
                      have hxX1_1 := (HX1.out.cell 1).trans (show _ = some (.slice (some adx) l0_1.length c0_1) from rfl)
                      have hfX1_1 := HX1.out.frozen 1
                      (try clear hxX2_0 hfX2_0 hxX2_1 hfX2_1)
                      have hxX2_0 := (HX2.out.cell 0).trans (show _ = some (.slice none 0 0) from rfl)
                      have hfX2_0 := HX2.out.frozen 0
                      have hxX2_1 := (HX2.out.cell 1).trans (show _ = some (.slice none 0 0) from rfl)
                      have hfX2_1 := HX2.out.frozen 1
                      refine pure_ (i := 0) (N := some 33) (v := ?_) (a' := ?_) #[true, false, false, false, false, false, false, false, false, false, false, false, false, false, false, false, false] rfl rfl (any_of HT_.out (by kernel_rfl)) (fun _ _ _ h => h) (Or.inl ⟨by rfl, ?_⟩) ?_ ?_
                      rotate_left
                      · intro w'
                        go_simp
                        with_reducible rfl
                      rotate_left
                      · simp only [Act.put, List.setIfInBounds_toArray, List.set_cons_zero, List.set_cons_succ, i64_w, i32_w]
                        rfl
                      refine pure_ (i := 1) (N := some 34) (v := ?_) (a' := ?_) #[true, true, false, false, false, false, false, false, false, false, false, false, false, false, false, false, false] rfl rfl (any_of HT_.out (by kernel_rfl)) (fun _ _ _ h => h) (Or.inl ⟨by rfl, ?_⟩) ?_ ?_
                      rotate_left
                      · intro w'
                        go_simp
                        with_reducible rfl
                      rotate_left
                      · simp only [Act.put, List.setIfInBounds_toArray, List.set_cons_zero, List.set_cons_succ, i64_w, i32_w]
                        rfl
                      refine take_ (i := 2) (N := some 35) (v := ?_) (a' := ?_) #[true, true, true, false, false, false, false, false, false, false, false, false, false, false, false, false, false] rfl rfl (take_ofW HT_.out HW_.out (by kernel_rfl)) (fun _ _ _ h => h) (Or.inl ⟨by rfl, ?_⟩) hHeld ?_ ?_
                      rotate_left
                      · rintro w' ⟨s0, s1⟩
                        go_simp
                        with_reducible rfl
                      rotate_left
                      · simp only [Act.put, List.setIfInBounds_toArray, List.set_cons_zero, List.set_cons_succ, i64_w, i32_w]
                        rfl
                      refine pure_ (i := 3) (N := some 36) (v := ?_) (a' := ?_) #[true, true, true, true, false, false, false, false, false, false, false, false, false, false, false, false, false] rfl rfl (any_of HT_.out (by kernel_rfl)) (fun _ _ _ h => h) (Or.inl ⟨by rfl, ?_⟩) ?_ ?_
                      rotate_left
                      · intro w'
                        go_simp
                        with_reducible rfl
                      rotate_left
                      · simp only [Act.put, List.setIfInBounds_toArray, List.set_cons_zero, List.set_cons_succ, i64_w, i32_w]
                        rfl
                      refine pure_ (i := 4) (N := some 37) (v := ?_) (a' := ?_) #[true, true, true, true, true, false, false, false, false, false, false, false, false, false, false, false, false] rfl rfl (any_of HT_.out (by kernel_rfl)) (fun _ _ _ h => h) (Or.inl ⟨by rfl, ?_⟩) ?_ ?_
                      rotate_left
                      · intro w'
                        go_simp
                        with_reducible rfl
                      rotate_left
                      · simp only [Act.put, List.setIfInBounds_toArray, List.set_cons_zero, List.set_cons_succ, i64_w, i32_w]
                        rfl
                      refine take_ (i := 5) (N := some 38) (v := ?_) (a' := ?_) #[true, true, true, true, true, true, false, false, false, false, false, false, false, false, false, false, false] rfl rfl (take_ofW HT_.out HW_.out (by kernel_rfl)) (fun _ _ _ h => h) (Or.inl ⟨by rfl, ?_⟩) hHeld ?_ ?_
                      rotate_left
                      · rintro w' ⟨s0, s1⟩
                        go_simp
                        with_reducible rfl
                      rotate_left
                      · simp only [Act.put, List.setIfInBounds_toArray, List.set_cons_zero, List.set_cons_succ, i64_w, i32_w]
                        rfl
                      refine pure_ (i := 6) (N := some 39) (v := ?_) (a' := ?_) #[true, true, true, true, true, true, true, false, false, false, false, false, false, false, false, false, false] rfl rfl (any_of HT_.out (by kernel_rfl)) (fun _ _ _ h => h) (Or.inl ⟨by rfl, ?_⟩) ?_ ?_
                      rotate_left
                      · intro w'
                        go_simp
                        with_reducible rfl
                      rotate_left
                      · simp only [Act.put, List.setIfInBounds_toArray, List.set_cons_zero, List.set_cons_succ, i64_w, i32_w]
                        rfl
                      refine pure_ (i := 7) (N := some 40) (v := ?_) (a' := ?_) #[true, true, true, true, true, true, true, true, false, false, false, false, false, false, false, false, false] rfl rfl (any_of HT_.out (by kernel_rfl)) (fun _ _ _ h => h) (Or.inl ⟨by rfl, ?_⟩) ?_ ?_
                      rotate_left
                      · intro w'
                        go_simp
                        with_reducible rfl
                      rotate_left
                      · simp only [Act.put, List.setIfInBounds_toArray, List.set_cons_zero, List.set_cons_succ, i64_w, i32_w]
                        rfl
                      refine take_ (i := 8) (N := some 41) (v := ?_) (a' := ?_) #[true, true, true, true, true, true, true, true, true, false, false, false, false, false, false, false, false] rfl rfl (take_ofW HT_.out HW_.out (by kernel_rfl)) (fun _ _ _ h => h) (Or.inl ⟨by rfl, ?_⟩) hHeld ?_ ?_
                      rotate_left
                      · rintro w' ⟨s0, s1⟩
                        go_simp
                        with_reducible rfl
                      rotate_left
                      · simp only [Act.put, List.setIfInBounds_toArray, List.set_cons_zero, List.set_cons_succ, i64_w, i32_w]
                        rfl
                      refine pure_ (i := 9) (N := some 42) (v := ?_) (a' := ?_) #[true, true, true, true, true, true, true, true, true, true, false, false, false, false, false, false, false] rfl rfl (any_of HT_.out (by kernel_rfl)) (fun _ _ _ h => h) (Or.inl ⟨by rfl, ?_⟩) ?_ ?_
                      rotate_left
                      · intro w'
                        go_simp
                        with_reducible rfl
                      rotate_left
                      · simp only [Act.put, List.setIfInBounds_toArray, List.set_cons_zero, List.set_cons_succ, i64_w, i32_w]
                        rfl
                      refine pure_ (i := 10) (N := some 43) (v := ?_) (a' := ?_) #[true, true, true, true, true, true, true, true, true, true, true, false, false, false, false, false, false] rfl rfl (any_of HT_.out (by kernel_rfl)) (fun _ _ _ h => h) (Or.inl ⟨by rfl, ?_⟩) ?_ ?_
                      rotate_left
                      · intro w'
                        go_simp
                        with_reducible rfl
                      rotate_left
                      · simp only [Act.put, List.setIfInBounds_toArray, List.set_cons_zero, List.set_cons_succ, i64_w, i32_w]
                        rfl
                      refine take_ (i := 11) (N := some 44) (v := ?_) (a' := ?_) #[true, true, true, true, true, true, true, true, true, true, true, true, false, false, false, false, false] rfl rfl (take_ofW HT_.out HW_.out (by kernel_rfl)) (fun _ _ _ h => h) (Or.inl ⟨by rfl, ?_⟩) hHeld ?_ ?_
                      rotate_left
                      · rintro w' ⟨s0, s1⟩
                        go_simp
                        with_reducible rfl
                      rotate_left
                      · simp only [Act.put, List.setIfInBounds_toArray, List.set_cons_zero, List.set_cons_succ, i64_w, i32_w]
                        rfl
                      refine pure_ (i := 12) (N := some 45) (v := ?_) (a' := ?_) #[true, true, true, true, true, true, true, true, true, true, true, true, true, false, false, false, false] rfl rfl (any_of HT_.out (by kernel_rfl)) (fun _ _ _ h => h) (Or.inl ⟨by rfl, ?_⟩) ?_ ?_
                      rotate_left
                      · intro w'
                        go_simp
                        with_reducible rfl
                      rotate_left
                      · simp only [Act.put, List.setIfInBounds_toArray, List.set_cons_zero, List.set_cons_succ, i64_w, i32_w]
                        rfl
                      refine pure_ (i := 13) (N := some 46) (v := ?_) (a' := ?_) #[true, true, true, true, true, true, true, true, true, true, true, true, true, true, false, false, false] rfl rfl (any_of HT_.out (by kernel_rfl)) (fun _ _ _ h => h) (Or.inl ⟨by rfl, ?_⟩) ?_ ?_
                      rotate_left
                      · intro w'
                        go_simp
                        with_reducible rfl
                      rotate_left
                      · simp only [Act.put, List.setIfInBounds_toArray, List.set_cons_zero, List.set_cons_succ, i64_w, i32_w]
                        rfl
                      refine pure_ (i := 14) (N := some 47) (v := ?_) (a' := ?_) #[true, true, true, true, true, true, true, true, true, true, true, true, true, true, true, false, false] rfl rfl (any_of HT_.out (by kernel_rfl)) (fun _ _ _ h => h) (Or.inl ⟨by rfl, ?_⟩) ?_ ?_
                      rotate_left
                      · intro w'
                        go_simp
                        with_reducible rfl
                      rotate_left
                      · simp only [Act.put, List.setIfInBounds_toArray, List.set_cons_zero, List.set_cons_succ, i64_w, i32_w]
                        rfl
                      refine one_ (i := 15) (N := some 48) #[true, true, true, true, true, true, true, true, true, true, true, true, true, true, true, true, false] rfl rfl (one_of HT_.out (by kernel_rfl)) (by decide) (fun K hK => ?_)
                      refine LR.append_read_step (Kd.int .u8) (w0 := w) (by rfl) (.tmp 33) (.tmp 47) 22 5 (.int .u8 0) 1 rfl Try.underlying22 info5 rfl (by decide) (by omega) (.slice B7 x7.length D7) x7 y3 _ _ _ rfl rfl (fun _ _ h_ => h_) H7.out (Kd.C_below HC2.out HB.out) HB.out ?aL_6 ?_
                      (case aL_6 => have := LM8.out; omega)
                      intro PF6 v_ w2 HL hb hk hR
                      have D_X1_F6 := Aside0.mk (apart_app hR HX1.out.lt D_X1_7.out)
                      have D_X2_F6 := Aside0.mk (apart_app hR HX2.out.lt D_X2_7.out)
                      replace HX1 := Aside0.mk (HX1.out.step hk D_X1_7.out)
                      replace HX2 := Aside0.mk (HX2.out.step hk D_X2_7.out)
                      rw [← Ny4.out] at HL
                      have HF6 := Aside0.mk HL
                      replace HB := Aside0.mk hb
                      clear hR HL hb hk
                      clear H7
                      obtain ⟨BF6, DF6, e_F6⟩ := HF6.out.val
                      subst e_F6
                      (try clear hxX1_0 hfX1_0 hxX1_1 hfX1_1)
                      have hxX1_0 := (HX1.out.cell 0).trans (show _ = some (.slice A0_0 l0_0.length c0_0) from rfl)
                      have hfX1_0 := HX1.out.frozen 0
                      have hxX1_1 := (HX1.out.cell 1).trans (show _ = some (.slice (some adx) l0_1.length c0_1) from rfl)
                      have hfX1_1 := HX1.out.frozen 1
                      (try clear hxX2_0 hfX2_0 hxX2_1 hfX2_1)
                      have hxX2_0 := (HX2.out.cell 0).trans (show _ = some (.slice none 0 0) from rfl)
                      have hfX2_0 := HX2.out.frozen 0
                      have hxX2_1 := (HX2.out.cell 1).trans (show _ = some (.slice none 0 0) from rfl)
                      have hfX2_1 := HX2.out.frozen 1
                      refine hK.out _ _ ⟨hxX1_1, ((HB.out.cell (World.block_lt_of_cell? w _ HX.out)).trans HX.out)⟩ (fun hHeld => ?_)
                      clear hK K
                      refine norm_ (a' := ?_) ?_ ?_
                      rotate_left
                      · show Act.put _ (some 48) _ = _
                        simp only [Act.put, List.setIfInBounds_toArray, List.set_cons_zero, List.set_cons_succ, i64_w, i32_w]
                        rfl
                      refine pure_ (i := 16) (N := some 7) (v := ?_) (a' := ?_) #[true, true, true, true, true, true, true, true, true, true, true, true, true, true, true, true, true] rfl rfl (any_of HT_.out (by kernel_rfl)) (fun _ _ _ h => h) (Or.inl ⟨by rfl, ?_⟩) ?_ ?_
                      rotate_left
                      · intro w'
                        go_simp
                        with_reducible rfl
                      rotate_left
                      · simp only [Act.put, List.setIfInBounds_toArray, List.set_cons_zero, List.set_cons_succ, i64_w, i32_w]
                        rfl
                      refine done_ (done_of HT_.out (by kernel_rfl)) ?_
                      go_wp2
                      go_roundg k1
                      case measure => have := HK1.out; omega
                      case rel => exact ⟨y4, wrap64 (x8 + 1), PF6, rfl, H', ⟨by have := HK1.out; omega⟩, HF6, HX1, HX2, ⟨D_X1_F6.out⟩, ⟨D_X2_F6.out⟩, HB⟩
                    · rw [if_neg c8] at H
                      exact absurd H (by simp)
                  · rw [if_neg c7] at H
                    exact absurd H (by simp)
                · rw [if_neg c6] at H
                  exact absurd H (by simp)
              · rw [if_neg c2] at H
                exact absurd H (by simp)
            · rw [if_neg c5] at H
              have cb5 : (x8 == a1) = false := beq_eq_false_iff_ne.mpr c5
              clear c5
              have H' := Aside0.mk H
              clear H c1
              (try clear hxX1_0 hfX1_0 hxX1_1 hfX1_1)
              have hxX1_0 := (HX1.out.cell 0).trans (show _ = some (.slice A0_0 l0_0.length c0_0) from rfl)
              have hfX1_0 := HX1.out.frozen 0
              have hxX1_1 := (HX1.out.cell 1).trans (show _ = some (.slice A0_1 l0_1.length c0_1) from rfl)
              have hfX1_1 := HX1.out.frozen 1
              (try clear hxX2_0 hfX2_0 hxX2_1 hfX2_1)
              have hxX2_0 := (HX2.out.cell 0).trans (show _ = some (.slice none 0 0) from rfl)
              have hfX2_0 := HX2.out.frozen 0
              have hxX2_1 := (HX2.out.cell 1).trans (show _ = some (.slice none 0 0) from rfl)
              have hfX2_1 := HX2.out.frozen 1
              go_wp2
              go_roundg k1
              case measure => have := HK1.out; omega
              case rel => exact ⟨x7, wrap64 (x8 + 1), P7, rfl, H', ⟨by have := HK1.out; omega⟩, H7, HX1, HX2, ⟨D_X1_7.out⟩, ⟨D_X2_7.out⟩, HB⟩
        · rw [if_neg c1] at H
          have cb1 : decide (x8 < (l0_1.length : Int)) = false := decide_eq_false c1
          clear c1
          simp only [Option.some.injEq, Prod.mk.injEq] at H
          obtain ⟨rfl, rfl⟩ := H
          (try clear hxX1_0 hfX1_0 hxX1_1 hfX1_1)
          have hxX1_0 := (HX1.out.cell 0).trans (show _ = some (.slice A0_0 l0_0.length c0_0) from rfl)
          have hfX1_0 := HX1.out.frozen 0
          have hxX1_1 := (HX1.out.cell 1).trans (show _ = some (.slice A0_1 l0_1.length c0_1) from rfl)
          have hfX1_1 := HX1.out.frozen 1
          (try clear hxX2_0 hfX2_0 hxX2_1 hfX2_1)
          have hxX2_0 := (HX2.out.cell 0).trans (show _ = some (.slice none 0 0) from rfl)
          have hfX2_0 := HX2.out.frozen 0
          have hxX2_1 := (HX2.out.cell 1).trans (show _ = some (.slice none 0 0) from rfl)
          have hfX2_1 := HX2.out.frozen 1
          go_wp2_with (first | ((with_reducible refine gate_store (t := 29) (p := 6) rfl ?_); refine LB.stored HX2.out HB.out GEX2.out 0 [.slice B7 x7.length D7, .slice none 0 0] rfl (t := 29) (p := 6) rfl rfl ?hr_7 ?_; (case hr_7 => first | (go_simp; done) | (go_simp; rfl)); intro w2 hx hk hb; replace HX1 := Aside0.mk (HX1.out.step hk D_X1_X2.out); replace H7 := Aside0.mk (H7.out.step hk (apart_symm D_X2_7.out)); replace HB := Aside0.mk hb; replace HX2 := Aside0.mk (show LB w2 PX2 gX2 29 #[.slice B7 x7.length D7, .slice none 0 0] from hx); clear hk hx hb; (try clear hxX1_0 hfX1_0 hxX1_1 hfX1_1); have hxX1_0 := (HX1.out.cell 0).trans (show _ = some (.slice A0_0 l0_0.length c0_0) from rfl); have hfX1_0 := HX1.out.frozen 0; have hxX1_1 := (HX1.out.cell 1).trans (show _ = some (.slice A0_1 l0_1.length c0_1) from rfl); have hfX1_1 := HX1.out.frozen 1; (try clear hxX2_0 hfX2_0 hxX2_1 hfX2_1); have hxX2_0 := (HX2.out.cell 0).trans (show _ = some (.slice B7 x7.length D7) from rfl); have hfX2_0 := HX2.out.frozen 0; have hxX2_1 := (HX2.out.cell 1).trans (show _ = some (.slice none 0 0) from rfl); have hfX2_1 := HX2.out.frozen 1))
          refine bodyPost_ret (results_cell_row rfl _ _ gX2 29 #[.slice B7 x7.length D7, .slice none 0 0] (0, 0) _ rfl HX2.out.2.1 Try.underlying29 rfl (by kernel_rfl)) rfl ?_
          exact ⟨_, _, rfl, Kd.R_mono H7.out.1 (fun _ _ => trivial), Kd.S_nil _ _ _ _ _, HB.out⟩
  · rw [if_neg c0] at h
    exact absurd h (by simp)

/-! ### spec_l02In: function 80 -/
def spec_l02In.f (a0 : Int) (a1 : Int) (a2 : Int) : Option (Bool) := if a0 ≥ a1 then (some (decide (a0 ≤ a2))) else (some false)
set_option maxHeartbeats 8000000 in
set_option maxRecDepth 100000 in
theorem spec_l02In.calls (a0 : Int) (a1 : Int) (a2 : Int) (r : Bool) (w : World) (h : spec_l02In.f a0 a1 a2 = some r) :
    Calls Try.prog 80 #[.int .i64 a0, .int .i64 a1, .int .i64 a2] w fun e w' => e = .returned (.bool r) ∧ Drawn0 w w' := by
  have H : (if a0 ≥ a1 then (some (decide (a0 ≤ a2))) else (some false)) = some r := h
  clear h
  by_cases c4 : a0 ≥ a1
  · rw [if_pos c4] at H
    have c4b0 : decide (a1 ≤ a0) = true := decide_eq_true c4
    clear c4
    obtain rfl := Option.some.inj H
    go_enter Try.func80, Try.ntmps80
    go_wp2
    go_ret
    exact ⟨by first | rfl | (simp; done) | (simp [*]; done), by repeat (first | exact Drawn0.refl _ | apply Drawn0.step)⟩
  · rw [if_neg c4] at H
    have c4b0 : decide (a1 ≤ a0) = false := decide_eq_false c4
    clear c4
    obtain rfl := Option.some.inj H
    go_enter Try.func80, Try.ntmps80
    go_wp2
    go_ret
    exact ⟨by first | rfl | (simp; done) | (simp [*]; done), by repeat (first | exact Drawn0.refl _ | apply Drawn0.step)⟩

/-! ### spec_l02Size: function 95 -/
def spec_l02Size.l0 : Nat → Int → Int → List Int → List (List Int) → Option (Int)
  | 0, _, _, _, _ => none
  | k + 1, x3, x4, x309000, x309001 => if x4 < (x309001.length : Int) then (if 0 ≤ x4 then (spec_l02Size.l0 k (wrap64 (x3 + ((rd_L1 x309001 x4).length : Int))) (wrap64 (x4 + 1)) x309000 x309001) else (none)) else (some x3)
def spec_l02Size.f (k : Nat) (l0_0 : List Int) (l0_1 : List (List Int)) : Option (Int) := spec_l02Size.l0 k (l0_0.length : Int) 0 l0_0 l0_1
theorem spec_l02Size.mono_l : ∀ k, (∀ y0 y1 y2 y3, LeO (spec_l02Size.l0 k y0 y1 y2 y3) (spec_l02Size.l0 (k + 1) y0 y1 y2 y3))
  | 0 => fun _ _ _ _ r h => by simp [spec_l02Size.l0] at h
  | k + 1 => by
    have ih0 := spec_l02Size.mono_l k
    · intro y0 y1 y2 y3
      unfold spec_l02Size.l0
      repeat' first
      | (with_reducible exact ih0 _ _ _ _)
      | (with_reducible exact LeO.refl _)
      | (with_reducible exact LeO.none _)
      | (with_reducible refine LeO.ite ?_ ?_)
      | (with_reducible refine LeO.bind ?_ (fun _ => ?_))
      | exact ih0 _ _ _ _
      | exact LeO.none _
      | refine LeO.ite ?_ ?_
      | refine LeO.bind ?_ (fun _ => ?_)
theorem spec_l02Size.mono : ∀ a0 a1 k, LeO (spec_l02Size.f k a0 a1) (spec_l02Size.f (k + 1) a0 a1) := by
  intro a0 a1 k
  have ih0 := spec_l02Size.mono_l k
  unfold spec_l02Size.f
  repeat' first
      | (with_reducible exact ih0 _ _ _ _)
      | (with_reducible exact LeO.refl _)
      | (with_reducible exact LeO.none _)
      | (with_reducible refine LeO.ite ?_ ?_)
      | (with_reducible refine LeO.bind ?_ (fun _ => ?_))
      | exact ih0 _ _ _ _
      | exact LeO.none _
      | refine LeO.ite ?_ ?_
      | refine LeO.bind ?_ (fun _ => ?_)
set_option maxHeartbeats 8000000 in
set_option maxRecDepth 100000 in
theorem spec_l02Size.calls (k : Nat) (A0_0 : Option Addr) (c0_0 : Nat) (l0_0 : List Int) (A0_1 : Option Addr) (c0_1 : Nat) (l0_1 : List (List Int)) (r : Int) (w : World) (hr0_0 : Kd.C (Kd.int .u8) w A0_0 l0_0.length l0_0) (hc0_0 : l0_0.length ≤ c0_0) (hr0_1 : Kd.C (Kd.slice 5 (Kd.int .u8)) w A0_1 l0_1.length l0_1) (hc0_1 : l0_1.length ≤ c0_1) (h : spec_l02Size.f k l0_0 l0_1 = some r) :
    Calls Try.prog 95 #[.agg #[.slice A0_0 l0_0.length c0_0, .slice A0_1 l0_1.length c0_1]] w fun e w' => e = .returned (.int .i64 r) ∧ Below w.heap.size w w' := by
  have hu29 := Try.underlying29
  have HR0_0 := Aside0.mk hr0_0
  have HC0_0 := Aside0.mk hc0_0
  clear hr0_0 hc0_0
  have HR0_1 := Aside0.mk hr0_1
  have HC0_1 := Aside0.mk hc0_1
  clear hr0_1 hc0_1
  have HB := Aside0.mk (Below.refl w.heap.size w)
  have H : (spec_l02Size.l0 k (l0_0.length : Int) 0 l0_0 l0_1) = some r := h
  clear h
  have H' := Aside0.mk H
  clear H
  go_enter Try.func95, Try.ntmps95
  go_wp2_with (first | ((with_reducible refine gate_dst (N := 1) rfl ?_); refine box_event ?hg (N := 1) ?hd (cs := #[.slice A0_0 l0_0.length c0_0, .slice A0_1 l0_1.length c0_1]) (t := 29) ?hr ?_; (case hd => rfl); (case hg => rfl); (case hr => first | (go_simp; done) | (go_simp; rfl)); intro gb308 hg w2 hbox hb; have n0_ := Aside0.mk (below_step (by repeat (first | (with_reducible first | exact HB.out | apply below_alloc | apply pw_below_drewN | apply below_drew1) | exact HB.out)) hb); have n1_ := Aside0.mk (hbox); have n2_ := Aside0.mk ((by rw [hg]; exact (below_size (by repeat (first | (with_reducible first | exact HB.out | apply below_alloc | apply pw_below_drewN | apply below_drew1) | exact HB.out))) : w.heap.size ≤ gb308)); have n3_ := Aside0.mk ((by rw [hg]; exact (below_size (by repeat (first | (with_reducible first | exact HB.out | apply below_alloc | apply pw_below_drewN | apply below_drew1) | exact HB.out))) : w.heap.size ≤ gb308)); clear HB; have HB := n0_; have BK308 := n1_; have GW308 := n2_; have GE308 := n3_; clear n0_ n1_ n2_ n3_; clear hb hbox hg; have hcz3_0 : w2.cell? ⟨gb308, 0, none⟩ = some (.slice A0_0 l0_0.length c0_0) := (blk_cell BK308.out 0).trans rfl; have hcz3_1 : w2.cell? ⟨gb308, 1, none⟩ = some (.slice A0_1 l0_1.length c0_1) := (blk_cell BK308.out 1).trans rfl; have hfz3_0 := blk_frozen BK308.out 0; have hfz3_1 := blk_frozen BK308.out 1))
  go_loopg [3, 4] k (fun kq v3 v4 w' => ∃ (x3_1 : Int) (x4_1 : Int), v3 = .int .i64 x3_1 ∧ v4 = .int .i64 x4_1 ∧ Aside0 (spec_l02Size.l0 kq x3_1 x4_1 l0_0 l0_1 = some r) ∧ Aside0 (kq ≤ k) ∧ Aside0 (w'.heap[gb308]? = some (.cells #[(.slice A0_0 l0_0.length c0_0), (.slice A0_1 l0_1.length c0_1)] 29 (0, 0))) ∧ Aside0 (Below w.heap.size w w'))
  case atStart => exact ⟨((l0_0.length : Int)), (0), (by first | rfl | (simp; done) | (simp [*]; done)), (by first | rfl | (simp; done) | (simp [*]; done)), H', ⟨Nat.le_refl _⟩, ⟨by (with_reducible repeat (first | refine blk_drewN ?_ _ | refine blk_drew ?_ | refine blk_alloc ?_ _)); exact BK308.out⟩, ⟨by repeat (first | (with_reducible first | exact HB.out | apply below_alloc | apply pw_below_drewN | apply below_drew1 | refine below_set ?_ GE308.out) | exact HB.out)⟩⟩
  case round =>
    clear H'
    try clear p2
    try clear hcz3_0
    try clear hcz3_1
    try clear hfz3_0
    try clear hfz3_1
    obtain ⟨x3_1, x4_1, rfl, rfl, HA, HK1, BK308, HB⟩ := hrel
    cases gk with
    | zero => exact absurd HA.out (by simp [spec_l02Size.l0])
    | succ k1 =>
      have H := HA.out
      clear HA
      simp only [spec_l02Size.l0] at H
      by_cases c4 : x4_1 < (l0_1.length : Int)
      · rw [if_pos c4] at H
        have c4b0 : decide (x4_1 < (l0_1.length : Int)) = true := decide_eq_true c4
        clear c4
        by_cases c5 : 0 ≤ x4_1
        · rw [if_pos c5] at H
          have c5b0 : decide (0 ≤ x4_1) = true := decide_eq_true c5
          clear c5
          have H' := Aside0.mk H
          clear H
          have hcz6_0 : wr.cell? ⟨gb308, 0, none⟩ = some (.slice A0_0 l0_0.length c0_0) := (blk_cell BK308.out 0).trans rfl
          have hcz6_1 : wr.cell? ⟨gb308, 1, none⟩ = some (.slice A0_1 l0_1.length c0_1) := (blk_cell BK308.out 1).trans rfl
          have hfz6_0 := blk_frozen BK308.out 0
          have hfz6_1 := blk_frozen BK308.out 1
          have p309 : 0 ≤ (x4_1 : Int) := of_decide_eq_true (by first | (with_reducible assumption) | assumption)
          have q309 : x4_1 < (l0_1.length : Int) := of_decide_eq_true (by first | (with_reducible assumption) | assumption)
          obtain ⟨ad309, A309_0, c309_0, e309, hx309_0, hl309_0, hi309_0⟩ := at_L1 HR0_1.out x4_1 p309 q309
          cases e309
          replace hx309_0 := (HB.out.cell (World.block_lt_of_cell? w _ hx309_0)).trans hx309_0
          have HR309_0 := Aside0.mk hi309_0
          have HC309_0 := Aside0.mk hl309_0
          clear hi309_0 hl309_0
          replace p309 := eq_true p309
          replace q309 := eq_true q309
          go_wp2
          go_roundg k1
          case measure => have := HK1.out; omega
          case rel => exact ⟨(wrap64 (x3_1 + ((rd_L1 l0_1 x4_1).length : Int))), (wrap64 (x4_1 + 1)), (by first | rfl | (simp; done) | (simp [*]; done)), (by first | rfl | (simp; done) | (simp [*]; done)), H', ⟨by have := HK1.out; omega⟩, ⟨by (with_reducible repeat (first | refine blk_drewN ?_ _ | refine blk_drew ?_ | refine blk_alloc ?_ _)); exact BK308.out⟩, ⟨by repeat (first | (with_reducible first | exact HB.out | apply below_alloc | apply pw_below_drewN | apply below_drew1 | refine below_set ?_ GE308.out) | exact HB.out)⟩⟩
        · rw [if_neg c5] at H
          exact absurd H (by simp)
      · rw [if_neg c4] at H
        have c4b0 : decide (x4_1 < (l0_1.length : Int)) = false := decide_eq_false c4
        clear c4
        obtain rfl := Option.some.inj H
        have hcz7_0 : wr.cell? ⟨gb308, 0, none⟩ = some (.slice A0_0 l0_0.length c0_0) := (blk_cell BK308.out 0).trans rfl
        have hcz7_1 : wr.cell? ⟨gb308, 1, none⟩ = some (.slice A0_1 l0_1.length c0_1) := (blk_cell BK308.out 1).trans rfl
        have hfz7_0 := blk_frozen BK308.out 0
        have hfz7_1 := blk_frozen BK308.out 1
        go_wp2
        go_ret
        exact ⟨by first | rfl | (simp [errW_none, errW_some] <;> rfl) | (simp [*, errW_none, errW_some] <;> rfl), by repeat (first | (with_reducible first | exact HB.out | apply below_alloc | apply pw_below_drewN | apply below_drew1 | refine below_set ?_ GE308.out) | exact HB.out)⟩

end Go.Proofs.Ytfclobfoghbblaa.PFnDisk
