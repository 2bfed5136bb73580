-- written by a program of this session (a copy of the print, widened: wip/patchprint.py)
import Derived.Test.YtfclobfoghbblaaPFnExactDiskRunx0
import Derived.Test.YtfclobfoghbblaaPFnExactDiskRunx2
import Derived.Test.YtfclobfoghbblaaHw
import Derived.Deep.RegionHeld3
import Derived.Deep.Cut
namespace Go.Proofs.Ytfclobfoghbblaa.PFnExactDiskRun
open Go.RowKit Go.Proofs.Ytfclobfoghbblaa.Lawful Go.Proofs.YtfclobfoghbblaaW.PrintWords Go.Proofs.YtfclobfoghbblaaW.PrintLast Go.Proofs.YtfclobfoghbblaaW.PrintMore
attribute [local go_sem] max2_int min2_int max_two min_two max_three min_three max_four min_four   -- for this text's walks alone
set_option linter.unusedVariables false
set_option linter.unusedSimpArgs false

/-! ### impl_Disk_crash: function 69 -/
def impl_Disk_crash.f (k : Nat) (l0_0 : List Int) (l0_1 : List (List Int)) (a1 : Int) (a2 : Int) : Option (List Int × (List (List Int))) := (slices_Clone_byte_byte.f l0_0).bind fun t143 => (if 0 ≤ (mn a1 (l0_1.length : Int)) then (if (mn a1 (l0_1.length : Int)) ≤ (l0_1.length : Int) then ((slices_Concat_byte_byte.f k (l0_1.take ((mn a1 (l0_1.length : Int)) : Int).toNat)).bind fun t150 => (if t143.length + t150.length < 140737488355328 then ((some (t143 ++ t150 : List Int)).bind fun y153 => (if (mn a1 (l0_1.length : Int)) < (l0_1.length : Int) then (if 0 ≤ (mn a2 ((rd_L1 l0_1 (mn a1 (l0_1.length : Int))).length : Int)) then (if (mn a2 ((rd_L1 l0_1 (mn a1 (l0_1.length : Int))).length : Int)) ≤ ((rd_L1 l0_1 (mn a1 (l0_1.length : Int))).length : Int) then (if y153.length + ((rd_L1 l0_1 (mn a1 (l0_1.length : Int))).take ((mn a2 ((rd_L1 l0_1 (mn a1 (l0_1.length : Int))).length : Int)) : Int).toNat).length < 140737488355328 then (some ((y153 ++ ((rd_L1 l0_1 (mn a1 (l0_1.length : Int))).take ((mn a2 ((rd_L1 l0_1 (mn a1 (l0_1.length : Int))).length : Int)) : Int).toNat)), ([] : List (List Int)))) else (none)) else (none)) else (none)) else (some (y153, ([] : List (List Int)))))) else (none))) else (none)) else (none))
theorem impl_Disk_crash.mono : ∀ a0 a1 a2 a3 k, LeO (impl_Disk_crash.f k a0 a1 a2 a3) (impl_Disk_crash.f (k + 1) a0 a1 a2 a3) := by
  intro a0 a1 a2 a3 k
  unfold impl_Disk_crash.f
  repeat' first
      | (with_reducible exact slices_Concat_byte_byte.mono _ _)
      | (with_reducible exact LeO.refl _)
      | (with_reducible exact LeO.none _)
      | (with_reducible refine LeO.ite ?_ ?_)
      | (with_reducible refine LeO.bind ?_ (fun _ => ?_))
      | exact slices_Concat_byte_byte.mono _ _
      | exact LeO.none _
      | refine LeO.ite ?_ ?_
      | refine LeO.bind ?_ (fun _ => ?_)
set_option maxHeartbeats 8000000 in
set_option maxRecDepth 100000 in
theorem impl_Disk_crash.calls (k : Nat) (A0_0 : Option Addr) (c0_0 : Nat) (l0_0 : List Int) (A0_1 : Option Addr) (c0_1 : Nat) (l0_1 : List (List Int)) (a1 : Int) (a2 : Int) (r1 : List Int) (r2 : List (List Int)) (w : World) (hr0_0 : Kd.C (Kd.int .u8) w A0_0 l0_0.length l0_0) (hc0_0 : l0_0.length ≤ c0_0) (hr0_1 : Kd.C (Kd.slice 5 (Kd.int .u8)) w A0_1 l0_1.length l0_1) (hc0_1 : l0_1.length ≤ c0_1) (h : impl_Disk_crash.f k l0_0 l0_1 a1 a2 = some (r1, r2)) :
    Calls Try.prog 69 #[.agg #[.slice A0_0 l0_0.length c0_0, .slice A0_1 l0_1.length c0_1], .int .i64 a1, .int .i64 a2] w fun e w' => ∃ v0_ v1_ : Value, e = .returned (.agg #[v0_, v1_]) ∧ Kd.R (Kd.int .u8) 5 w' w.heap.size (fun _ => True) v0_ r1 ∧ Kd.S (Kd.slice 5 (Kd.int .u8)) 22 w' w.heap.size (fun k_ => some k_ ≠ (v0_ : Value).ownBlock) v1_ r2 ∧ Below w.heap.size w w' := by
  have hu := Try.underlying29
  have HB := Aside0.mk (Below.refl w.heap.size w)
  unfold impl_Disk_crash.f at h
  obtain ⟨t1, e1, h⟩ := Option.bind_eq_some_iff.1 h
  have E1 := Aside0.mk e1
  clear e1
  obtain ⟨m1, hm1⟩ : ∃ m, m = mn a1 (l0_1.length : Int) := ⟨_, rfl⟩
  rw [← hm1] at h
  have hmw1 : (if (l0_1.length : Int) < a1 then (l0_1.length : Int) else a1) = m1 := hm1.symm
  clear hm1
  by_cases c1 : 0 ≤ m1
  · rw [if_pos c1] at h
    by_cases c2 : m1 ≤ (l0_1.length : Int)
    · rw [if_pos c2] at h
      obtain ⟨y1, hy1⟩ : ∃ y_ : List (List Int), y_ = l0_1.take m1.toNat := ⟨_, rfl⟩
      rw [← hy1] at h
      obtain ⟨t2, e2, h⟩ := Option.bind_eq_some_iff.1 h
      have E2 := Aside0.mk e2
      clear e2
      by_cases c3 : t1.length + t2.length < 140737488355328
      · rw [if_pos c3] at h
        have LM3 := Aside0.mk c3
        clear c3
        simp only [Option.bind_some] at h
        obtain ⟨y2, hy2⟩ : ∃ y_ : List Int, y_ = t1 ++ t2 := ⟨_, rfl⟩
        rw [← hy2] at h
        have Ny2 := Aside0.mk hy2
        clear hy2
        obtain ⟨i01, hi01, _, hsz1, _⟩ := info_parts info22
        obtain ⟨hlc1, hcut1, hC1⟩ := cut_take (d := (Kd.slice 5 (Kd.int .u8))) (P := Try.prog) 23 22 .i64 Try.underlying23 hi01 A0_1 c0_1 m1 y1 hy1 hc0_1 c1 c2
        have HLC1 := Aside0.mk hlc1
        have HC1 := Aside0.mk hC1
        have HR0 := Aside0.mk hr0_0
        have HL0 := Aside0.mk hc0_0
        have HL1 := Aside0.mk hc0_1
        clear hlc1 hC1 hi01 hsz1 hy1 hr0_0 hc0_0 hc0_1
        by_cases c4 : m1 < (l0_1.length : Int)
        · rw [if_pos c4] at h
          obtain ⟨adx, Ax, cx, ex, hx, hlx, hix⟩ := at_L1 hr0_1 m1 c1 c4
          cases ex
          obtain ⟨z, hz⟩ : ∃ z, z = rd_L1 l0_1 m1 := ⟨_, rfl⟩
          rw [← hz] at h hx hlx hix
          have cb4 : decide (m1 < (l0_1.length : Int)) = true := decide_eq_true c4
          have HX := Aside0.mk hx
          have HR1 := Aside0.mk hr0_1
          clear hx hr0_1
          obtain ⟨m2, hm2⟩ : ∃ m, m = mn a2 (z.length : Int) := ⟨_, rfl⟩
          rw [← hm2] at h
          have hmw2 : (if (z.length : Int) < a2 then (z.length : Int) else a2) = m2 := hm2.symm
          clear hm2
          by_cases c5 : 0 ≤ m2
          · rw [if_pos c5] at h
            by_cases c6 : m2 ≤ (z.length : Int)
            · rw [if_pos c6] at h
              obtain ⟨y3, hy3⟩ : ∃ y_ : List Int, y_ = z.take m2.toNat := ⟨_, rfl⟩
              rw [← hy3] at h
              by_cases c7 : y2.length + y3.length < 140737488355328
              · rw [if_pos c7] at h
                have LM7 := Aside0.mk c7
                clear c7
                obtain ⟨i02, hi02, _, hsz2, _⟩ := info_parts info5
                obtain ⟨hlc2, hcut2, hC2⟩ := cut_take (d := (Kd.int .u8)) (P := Try.prog) 22 5 .i64 Try.underlying22 hi02 Ax cx m2 y3 hy3 hlx c5 c6
                have HLC2 := Aside0.mk hlc2
                have HC2 := Aside0.mk (hC2 _ hix)
                clear hlc2 hC2 hi02 hsz2 hy3 hlx hix hz
                obtain ⟨y4, hy4⟩ : ∃ y_ : List Int, y_ = y2 ++ y3 := ⟨_, rfl⟩
                rw [← hy4] at h
                have Ny4 := Aside0.mk hy4
                clear hy4
                simp only [Option.some.injEq, Prod.mk.injEq] at h
                obtain ⟨rfl, rfl⟩ := h
                have C1 := Aside0.mk c1
                have C2 := Aside0.mk c2
                have C4 := Aside0.mk c4
                clear c2 c5 c6
                replace c1 := eq_true c1
                replace c4 := eq_true c4
                go_enter Try.func69, Try.ntmps69
                go_upto_region 2 with (first | ((with_reducible refine gate_dst (N := 3) rfl ?_); refine box_event ?hg (N := 3) ?hd (cs := #[.slice A0_0 l0_0.length c0_0, .slice (some adx) l0_1.length c0_1]) (t := 29) ?hr ?_; (case hd => rfl); (case hg => rfl); (case hr => first | (go_simp; done) | (go_simp; rfl)); intro gX1 hg w2 hbox hb; have hk := kept_below hb; obtain ⟨PX1, hPX1, HLX1⟩ := LB.fresh hg hbox; have HX1 := Aside0.mk HLX1; clear HLX1; have GEX1 := Aside0.mk (show w.heap.size ≤ gX1 from (by rw [hg]; exact HB.out.size)); replace HB := Aside0.mk (below_step HB.out hb); clear hb hk hbox hg hPX1; (try clear hxX1_0 hfX1_0 hxX1_1 hfX1_1); have hxX1_0 := (HX1.out.cell 0).trans (show _ = some (.slice A0_0 l0_0.length c0_0) from rfl); have hfX1_0 := HX1.out.frozen 0; have hxX1_1 := (HX1.out.cell 1).trans (show _ = some (.slice (some adx) l0_1.length c0_1) from rfl); have hfX1_1 := HX1.out.frozen 1) | ((with_reducible refine gate_dst (N := 6) rfl ?_); refine box_event ?hg (N := 6) ?hd (cs := #[.slice none 0 0, .slice none 0 0]) (t := 29) ?hr ?_; (case hd => rfl); (case hg => rfl); (case hr => first | (go_simp; done) | (go_simp; rfl)); intro gX2 hg w2 hbox hb; have hk := kept_below hb; obtain ⟨PX2, hPX2, HLX2⟩ := LB.fresh hg hbox; have HX2 := Aside0.mk HLX2; clear HLX2; have GEX2 := Aside0.mk (show w.heap.size ≤ gX2 from (by rw [hg]; exact HB.out.size)); have D_X1_X2 := Aside0.mk (new_apart HX1.out.lt hPX2); replace HX1 := Aside0.mk (HX1.out.step hk no_S); replace HB := Aside0.mk (below_step HB.out hb); clear hb hk hbox hg hPX2; (try clear hxX1_0 hfX1_0 hxX1_1 hfX1_1); have hxX1_0 := (HX1.out.cell 0).trans (show _ = some (.slice A0_0 l0_0.length c0_0) from rfl); have hfX1_0 := HX1.out.frozen 0; have hxX1_1 := (HX1.out.cell 1).trans (show _ = some (.slice (some adx) l0_1.length c0_1) from rfl); have hfX1_1 := HX1.out.frozen 1; (try clear hxX2_0 hfX2_0 hxX2_1 hfX2_1); have hxX2_0 := (HX2.out.cell 0).trans (show _ = some (.slice none 0 0) from rfl); have hfX2_0 := HX2.out.frozen 0; have hxX2_1 := (HX2.out.cell 1).trans (show _ = some (.slice none 0 0) from rfl); have hfX2_1 := HX2.out.frozen 1))
                go_region_held3 (fun w' => w'.cell? ⟨gX1, 0, none⟩ = some (.slice A0_0 l0_0.length c0_0) ∧ w'.cell? ⟨gX1, 1, none⟩ = some (.slice (some adx) l0_1.length c0_1) ∧ w'.cell? ⟨gX2, 0, none⟩ = some (.slice none 0 0) ∧ w'.cell? ⟨gX2, 1, none⟩ = some (.slice none 0 0)) (go_keep) (first | ((try (generalize hwd_ : World.drew _ = wd_; have hk := kept_drew hwd_; replace HX1 := Aside0.mk (HX1.out.step hk no_S); replace HX2 := Aside0.mk (HX2.out.step hk no_S); replace HB := Aside0.mk (below_drewd HB.out hwd_); clear hk hwd_; (try clear hxX1_0 hfX1_0 hxX1_1 hfX1_1); have hxX1_0 := (HX1.out.cell 0).trans (show _ = some (.slice A0_0 l0_0.length c0_0) from rfl); have hfX1_0 := HX1.out.frozen 0; have hxX1_1 := (HX1.out.cell 1).trans (show _ = some (.slice (some adx) l0_1.length c0_1) from rfl); have hfX1_1 := HX1.out.frozen 1; (try clear hxX2_0 hfX2_0 hxX2_1 hfX2_1); have hxX2_0 := (HX2.out.cell 0).trans (show _ = some (.slice none 0 0) from rfl); have hfX2_0 := HX2.out.frozen 0; have hxX2_1 := (HX2.out.cell 1).trans (show _ = some (.slice none 0 0) from rfl); have hfX2_1 := HX2.out.frozen 1; skip)); (go_at_call 97; (with_reducible refine (slices_Clone_byte_byte.calls _ _ l0_0 t1 _ (Kd.C_below HR0.out HB.out) HL0.out E1.out).mono ?_); rintro e w2 ⟨vF3, rfl, hrF3, hb⟩; have hk := kept_below hb; obtain ⟨PF3, hPF3, HLF3⟩ := LR.fresh rfl HB.out hrF3; have HF3 := Aside0.mk HLF3; clear HLF3 hrF3; have D_X1_F3 := Aside0.mk (new_apart HX1.out.lt hPF3); have D_X2_F3 := Aside0.mk (new_apart HX2.out.lt hPF3); replace HX1 := Aside0.mk (HX1.out.step hk no_S); replace HX2 := Aside0.mk (HX2.out.step hk no_S); clear hPF3; obtain ⟨BF3, DF3, e_F3⟩ := HF3.out.val; subst e_F3; replace HB := Aside0.mk (below_step HB.out hb); clear hb hk; (try clear hxX1_0 hfX1_0 hxX1_1 hfX1_1); have hxX1_0 := (HX1.out.cell 0).trans (show _ = some (.slice A0_0 l0_0.length c0_0) from rfl); have hfX1_0 := HX1.out.frozen 0; have hxX1_1 := (HX1.out.cell 1).trans (show _ = some (.slice (some adx) l0_1.length c0_1) from rfl); have hfX1_1 := HX1.out.frozen 1; (try clear hxX2_0 hfX2_0 hxX2_1 hfX2_1); have hxX2_0 := (HX2.out.cell 0).trans (show _ = some (.slice none 0 0) from rfl); have hfX2_0 := HX2.out.frozen 0; have hxX2_1 := (HX2.out.cell 1).trans (show _ = some (.slice none 0 0) from rfl); have hfX2_1 := HX2.out.frozen 1)) | (go_at_call 98; (with_reducible refine (slices_Concat_byte_byte.calls k _ _ y1 t2 _ (Kd.C_below (HC1.out _ HR1.out) HB.out) HLC1.out E2.out).mono ?_); rintro e w2 ⟨vF4, rfl, hrF4, hb⟩; have hk := kept_below hb; obtain ⟨PF4, hPF4, HLF4⟩ := LR.fresh rfl HB.out hrF4; have HF4 := Aside0.mk HLF4; clear HLF4 hrF4; have D_X1_F4 := Aside0.mk (new_apart HX1.out.lt hPF4); have D_X2_F4 := Aside0.mk (new_apart HX2.out.lt hPF4); have D_F3_F4 := Aside0.mk (new_apart HF3.out.lt hPF4); replace HX1 := Aside0.mk (HX1.out.step hk no_S); replace HX2 := Aside0.mk (HX2.out.step hk no_S); replace HF3 := Aside0.mk (HF3.out.step hk no_S); clear hPF4; obtain ⟨BF4, DF4, e_F4⟩ := HF4.out.val; subst e_F4; replace HB := Aside0.mk (below_step HB.out hb); clear hb hk; (try clear hxX1_0 hfX1_0 hxX1_1 hfX1_1); have hxX1_0 := (HX1.out.cell 0).trans (show _ = some (.slice A0_0 l0_0.length c0_0) from rfl); have hfX1_0 := HX1.out.frozen 0; have hxX1_1 := (HX1.out.cell 1).trans (show _ = some (.slice (some adx) l0_1.length c0_1) from rfl); have hfX1_1 := HX1.out.frozen 1; (try clear hxX2_0 hfX2_0 hxX2_1 hfX2_1); have hxX2_0 := (HX2.out.cell 0).trans (show _ = some (.slice none 0 0) from rfl); have hfX2_0 := HX2.out.frozen 0; have hxX2_1 := (HX2.out.cell 1).trans (show _ = some (.slice none 0 0) from rfl); have hfX2_1 := HX2.out.frozen 1) | (refine LR.append_read_step (Kd.int .u8) (w0 := w) (by rfl) (.tmp 16) (.tmp 21) 22 5 (.int .u8 0) 1 rfl Try.underlying22 info5 rfl (by decide) (by omega) (.slice BF3 t1.length DF3) t1 t2 _ _ _ rfl rfl (fun _ _ h_ => h_) HF3.out HF4.out.reads HB.out ?aL ?_; (case aL => have := LM3.out; omega); intro PF5 v_ w2 HL hb hk hR; have D_X1_F5 := Aside0.mk (apart_app hR HX1.out.lt D_X1_F3.out); have D_X2_F5 := Aside0.mk (apart_app hR HX2.out.lt D_X2_F3.out); have D_F4_F5 := Aside0.mk (apart_app hR HF4.out.lt (apart_symm D_F3_F4.out)); replace HX1 := Aside0.mk (HX1.out.step hk D_X1_F3.out); replace HX2 := Aside0.mk (HX2.out.step hk D_X2_F3.out); replace HF4 := Aside0.mk (HF4.out.step hk (apart_symm D_F3_F4.out)); rw [← Ny2.out] at HL; have HF5 := Aside0.mk HL; replace HB := Aside0.mk hb; clear hR HL hb hk; clear HF3; obtain ⟨BF5, DF5, e_F5⟩ := HF5.out.val; subst e_F5; (try clear hxX1_0 hfX1_0 hxX1_1 hfX1_1); have hxX1_0 := (HX1.out.cell 0).trans (show _ = some (.slice A0_0 l0_0.length c0_0) from rfl); have hfX1_0 := HX1.out.frozen 0; have hxX1_1 := (HX1.out.cell 1).trans (show _ = some (.slice (some adx) l0_1.length c0_1) from rfl); have hfX1_1 := HX1.out.frozen 1; (try clear hxX2_0 hfX2_0 hxX2_1 hfX2_1); have hxX2_0 := (HX2.out.cell 0).trans (show _ = some (.slice none 0 0) from rfl); have hfX2_0 := HX2.out.frozen 0; have hxX2_1 := (HX2.out.cell 1).trans (show _ = some (.slice none 0 0) from rfl); have hfX2_1 := HX2.out.frozen 1))
                have hx := HX.out
                replace hx := (HB.out.cell (World.block_lt_of_cell? w _ hx)).trans hx
                go_wp2_with (first | ((with_reducible refine gate_builtin (b := .append) (xs := #[.tmp 33, .tmp 39]) rfl ?_); at_builtin; refine LR.append_read (Kd.int .u8) (w0 := w) rfl (.tmp 33) (.tmp 39) 22 5 (.int .u8 0) 1 rfl Try.underlying22 info5 rfl (by decide) (by omega) (.slice BF5 y2.length DF5) y2 y3 _ _ _ rfl rfl (fun _ _ h_ => h_) HF5.out (Kd.C_below HC2.out HB.out) HB.out ?aL ?_; (case aL => have := LM7.out; omega); intro PF6 v_ w2 HL hb hk hR; have D_X1_F6 := Aside0.mk (apart_app hR HX1.out.lt D_X1_F5.out); have D_X2_F6 := Aside0.mk (apart_app hR HX2.out.lt D_X2_F5.out); have D_F4_F6 := Aside0.mk (apart_app hR HF4.out.lt D_F4_F5.out); replace HX1 := Aside0.mk (HX1.out.step hk D_X1_F5.out); replace HX2 := Aside0.mk (HX2.out.step hk D_X2_F5.out); replace HF4 := Aside0.mk (HF4.out.step hk D_F4_F5.out); rw [← Ny4.out] at HL; have HF6 := Aside0.mk HL; replace HB := Aside0.mk hb; clear hR HL hb hk; clear HF5; obtain ⟨BF6, DF6, e_F6⟩ := HF6.out.val; subst e_F6; (try clear hxX1_0 hfX1_0 hxX1_1 hfX1_1); have hxX1_0 := (HX1.out.cell 0).trans (show _ = some (.slice A0_0 l0_0.length c0_0) from rfl); have hfX1_0 := HX1.out.frozen 0; have hxX1_1 := (HX1.out.cell 1).trans (show _ = some (.slice (some adx) l0_1.length c0_1) from rfl); have hfX1_1 := HX1.out.frozen 1; (try clear hxX2_0 hfX2_0 hxX2_1 hfX2_1); have hxX2_0 := (HX2.out.cell 0).trans (show _ = some (.slice none 0 0) from rfl); have hfX2_0 := HX2.out.frozen 0; have hxX2_1 := (HX2.out.cell 1).trans (show _ = some (.slice none 0 0) from rfl); have hfX2_1 := HX2.out.frozen 1) | ((with_reducible refine gate_store (t := 29) (p := 6) rfl ?_); refine LB.stored HX2.out HB.out GEX2.out 0 [.slice BF6 y4.length DF6, .slice none 0 0] rfl (t := 29) (p := 6) rfl rfl ?hr ?_; (case hr => first | (go_simp; done) | (go_simp; rfl)); intro w2 hx hk hb; replace HX1 := Aside0.mk (HX1.out.step hk D_X1_X2.out); replace HF4 := Aside0.mk (HF4.out.step hk (apart_symm D_X2_F4.out)); replace HF6 := Aside0.mk (HF6.out.step hk (apart_symm D_X2_F6.out)); replace HB := Aside0.mk hb; replace HX2 := Aside0.mk (show LB w2 PX2 gX2 29 #[.slice BF6 y4.length DF6, .slice none 0 0] from hx); clear hk hx hb; (try clear hxX1_0 hfX1_0 hxX1_1 hfX1_1); have hxX1_0 := (HX1.out.cell 0).trans (show _ = some (.slice A0_0 l0_0.length c0_0) from rfl); have hfX1_0 := HX1.out.frozen 0; have hxX1_1 := (HX1.out.cell 1).trans (show _ = some (.slice (some adx) l0_1.length c0_1) from rfl); have hfX1_1 := HX1.out.frozen 1; (try clear hxX2_0 hfX2_0 hxX2_1 hfX2_1); have hxX2_0 := (HX2.out.cell 0).trans (show _ = some (.slice BF6 y4.length DF6) from rfl); have hfX2_0 := HX2.out.frozen 0; have hxX2_1 := (HX2.out.cell 1).trans (show _ = some (.slice none 0 0) from rfl); have hfX2_1 := HX2.out.frozen 1))
                refine bodyPost_ret (results_cell_row rfl _ _ gX2 29 #[.slice BF6 y4.length DF6, .slice none 0 0] (0, 0) _ rfl HX2.out.2.1 Try.underlying29 rfl (by kernel_rfl)) rfl ?_
                exact ⟨_, _, rfl, Kd.R_mono HF6.out.1 (fun _ _ => trivial), Kd.S_nil _ _ _ _ _, HB.out⟩
              · rw [if_neg c7] at h
                exact absurd h (by simp)
            · rw [if_neg c6] at h
              exact absurd h (by simp)
          · rw [if_neg c5] at h
            exact absurd h (by simp)
        · rw [if_neg c4] at h
          have HR1 := Aside0.mk hr0_1
          clear hr0_1
          have cb4 : decide (m1 < (l0_1.length : Int)) = false := decide_eq_false c4
          clear c1 c2 c4
          simp only [Option.some.injEq, Prod.mk.injEq] at h
          obtain ⟨rfl, rfl⟩ := h
          go_enter Try.func69, Try.ntmps69
          go_upto_region 2 with (first | ((with_reducible refine gate_dst (N := 3) rfl ?_); refine box_event ?hg (N := 3) ?hd (cs := #[.slice A0_0 l0_0.length c0_0, .slice A0_1 l0_1.length c0_1]) (t := 29) ?hr ?_; (case hd => rfl); (case hg => rfl); (case hr => first | (go_simp; done) | (go_simp; rfl)); intro gX1 hg w2 hbox hb; have hk := kept_below hb; obtain ⟨PX1, hPX1, HLX1⟩ := LB.fresh hg hbox; have HX1 := Aside0.mk HLX1; clear HLX1; have GEX1 := Aside0.mk (show w.heap.size ≤ gX1 from (by rw [hg]; exact HB.out.size)); replace HB := Aside0.mk (below_step HB.out hb); clear hb hk hbox hg hPX1; (try clear hxX1_0 hfX1_0 hxX1_1 hfX1_1); have hxX1_0 := (HX1.out.cell 0).trans (show _ = some (.slice A0_0 l0_0.length c0_0) from rfl); have hfX1_0 := HX1.out.frozen 0; have hxX1_1 := (HX1.out.cell 1).trans (show _ = some (.slice A0_1 l0_1.length c0_1) from rfl); have hfX1_1 := HX1.out.frozen 1) | ((with_reducible refine gate_dst (N := 6) rfl ?_); refine box_event ?hg (N := 6) ?hd (cs := #[.slice none 0 0, .slice none 0 0]) (t := 29) ?hr ?_; (case hd => rfl); (case hg => rfl); (case hr => first | (go_simp; done) | (go_simp; rfl)); intro gX2 hg w2 hbox hb; have hk := kept_below hb; obtain ⟨PX2, hPX2, HLX2⟩ := LB.fresh hg hbox; have HX2 := Aside0.mk HLX2; clear HLX2; have GEX2 := Aside0.mk (show w.heap.size ≤ gX2 from (by rw [hg]; exact HB.out.size)); have D_X1_X2 := Aside0.mk (new_apart HX1.out.lt hPX2); replace HX1 := Aside0.mk (HX1.out.step hk no_S); replace HB := Aside0.mk (below_step HB.out hb); clear hb hk hbox hg hPX2; (try clear hxX1_0 hfX1_0 hxX1_1 hfX1_1); have hxX1_0 := (HX1.out.cell 0).trans (show _ = some (.slice A0_0 l0_0.length c0_0) from rfl); have hfX1_0 := HX1.out.frozen 0; have hxX1_1 := (HX1.out.cell 1).trans (show _ = some (.slice A0_1 l0_1.length c0_1) from rfl); have hfX1_1 := HX1.out.frozen 1; (try clear hxX2_0 hfX2_0 hxX2_1 hfX2_1); have hxX2_0 := (HX2.out.cell 0).trans (show _ = some (.slice none 0 0) from rfl); have hfX2_0 := HX2.out.frozen 0; have hxX2_1 := (HX2.out.cell 1).trans (show _ = some (.slice none 0 0) from rfl); have hfX2_1 := HX2.out.frozen 1))
          go_region_held3 (fun w' => w'.cell? ⟨gX1, 0, none⟩ = some (.slice A0_0 l0_0.length c0_0) ∧ w'.cell? ⟨gX1, 1, none⟩ = some (.slice A0_1 l0_1.length c0_1) ∧ w'.cell? ⟨gX2, 0, none⟩ = some (.slice none 0 0) ∧ w'.cell? ⟨gX2, 1, none⟩ = some (.slice none 0 0)) (go_keep) (first | ((try (generalize hwd_ : World.drew _ = wd_; have hk := kept_drew hwd_; replace HX1 := Aside0.mk (HX1.out.step hk no_S); replace HX2 := Aside0.mk (HX2.out.step hk no_S); replace HB := Aside0.mk (below_drewd HB.out hwd_); clear hk hwd_; (try clear hxX1_0 hfX1_0 hxX1_1 hfX1_1); have hxX1_0 := (HX1.out.cell 0).trans (show _ = some (.slice A0_0 l0_0.length c0_0) from rfl); have hfX1_0 := HX1.out.frozen 0; have hxX1_1 := (HX1.out.cell 1).trans (show _ = some (.slice A0_1 l0_1.length c0_1) from rfl); have hfX1_1 := HX1.out.frozen 1; (try clear hxX2_0 hfX2_0 hxX2_1 hfX2_1); have hxX2_0 := (HX2.out.cell 0).trans (show _ = some (.slice none 0 0) from rfl); have hfX2_0 := HX2.out.frozen 0; have hxX2_1 := (HX2.out.cell 1).trans (show _ = some (.slice none 0 0) from rfl); have hfX2_1 := HX2.out.frozen 1; skip)); (go_at_call 97; (with_reducible refine (slices_Clone_byte_byte.calls _ _ l0_0 t1 _ (Kd.C_below HR0.out HB.out) HL0.out E1.out).mono ?_); rintro e w2 ⟨vF3, rfl, hrF3, hb⟩; have hk := kept_below hb; obtain ⟨PF3, hPF3, HLF3⟩ := LR.fresh rfl HB.out hrF3; have HF3 := Aside0.mk HLF3; clear HLF3 hrF3; have D_X1_F3 := Aside0.mk (new_apart HX1.out.lt hPF3); have D_X2_F3 := Aside0.mk (new_apart HX2.out.lt hPF3); replace HX1 := Aside0.mk (HX1.out.step hk no_S); replace HX2 := Aside0.mk (HX2.out.step hk no_S); clear hPF3; obtain ⟨BF3, DF3, e_F3⟩ := HF3.out.val; subst e_F3; replace HB := Aside0.mk (below_step HB.out hb); clear hb hk; (try clear hxX1_0 hfX1_0 hxX1_1 hfX1_1); have hxX1_0 := (HX1.out.cell 0).trans (show _ = some (.slice A0_0 l0_0.length c0_0) from rfl); have hfX1_0 := HX1.out.frozen 0; have hxX1_1 := (HX1.out.cell 1).trans (show _ = some (.slice A0_1 l0_1.length c0_1) from rfl); have hfX1_1 := HX1.out.frozen 1; (try clear hxX2_0 hfX2_0 hxX2_1 hfX2_1); have hxX2_0 := (HX2.out.cell 0).trans (show _ = some (.slice none 0 0) from rfl); have hfX2_0 := HX2.out.frozen 0; have hxX2_1 := (HX2.out.cell 1).trans (show _ = some (.slice none 0 0) from rfl); have hfX2_1 := HX2.out.frozen 1)) | (go_at_call 98; (with_reducible refine (slices_Concat_byte_byte.calls k _ _ y1 t2 _ (Kd.C_below (HC1.out _ HR1.out) HB.out) HLC1.out E2.out).mono ?_); rintro e w2 ⟨vF4, rfl, hrF4, hb⟩; have hk := kept_below hb; obtain ⟨PF4, hPF4, HLF4⟩ := LR.fresh rfl HB.out hrF4; have HF4 := Aside0.mk HLF4; clear HLF4 hrF4; have D_X1_F4 := Aside0.mk (new_apart HX1.out.lt hPF4); have D_X2_F4 := Aside0.mk (new_apart HX2.out.lt hPF4); have D_F3_F4 := Aside0.mk (new_apart HF3.out.lt hPF4); replace HX1 := Aside0.mk (HX1.out.step hk no_S); replace HX2 := Aside0.mk (HX2.out.step hk no_S); replace HF3 := Aside0.mk (HF3.out.step hk no_S); clear hPF4; obtain ⟨BF4, DF4, e_F4⟩ := HF4.out.val; subst e_F4; replace HB := Aside0.mk (below_step HB.out hb); clear hb hk; (try clear hxX1_0 hfX1_0 hxX1_1 hfX1_1); have hxX1_0 := (HX1.out.cell 0).trans (show _ = some (.slice A0_0 l0_0.length c0_0) from rfl); have hfX1_0 := HX1.out.frozen 0; have hxX1_1 := (HX1.out.cell 1).trans (show _ = some (.slice A0_1 l0_1.length c0_1) from rfl); have hfX1_1 := HX1.out.frozen 1; (try clear hxX2_0 hfX2_0 hxX2_1 hfX2_1); have hxX2_0 := (HX2.out.cell 0).trans (show _ = some (.slice none 0 0) from rfl); have hfX2_0 := HX2.out.frozen 0; have hxX2_1 := (HX2.out.cell 1).trans (show _ = some (.slice none 0 0) from rfl); have hfX2_1 := HX2.out.frozen 1) | (refine LR.append_read_step (Kd.int .u8) (w0 := w) (by rfl) (.tmp 16) (.tmp 21) 22 5 (.int .u8 0) 1 rfl Try.underlying22 info5 rfl (by decide) (by omega) (.slice BF3 t1.length DF3) t1 t2 _ _ _ rfl rfl (fun _ _ h_ => h_) HF3.out HF4.out.reads HB.out ?aL ?_; (case aL => have := LM3.out; omega); intro PF5 v_ w2 HL hb hk hR; have D_X1_F5 := Aside0.mk (apart_app hR HX1.out.lt D_X1_F3.out); have D_X2_F5 := Aside0.mk (apart_app hR HX2.out.lt D_X2_F3.out); have D_F4_F5 := Aside0.mk (apart_app hR HF4.out.lt (apart_symm D_F3_F4.out)); replace HX1 := Aside0.mk (HX1.out.step hk D_X1_F3.out); replace HX2 := Aside0.mk (HX2.out.step hk D_X2_F3.out); replace HF4 := Aside0.mk (HF4.out.step hk (apart_symm D_F3_F4.out)); rw [← Ny2.out] at HL; have HF5 := Aside0.mk HL; replace HB := Aside0.mk hb; clear hR HL hb hk; clear HF3; obtain ⟨BF5, DF5, e_F5⟩ := HF5.out.val; subst e_F5; (try clear hxX1_0 hfX1_0 hxX1_1 hfX1_1); have hxX1_0 := (HX1.out.cell 0).trans (show _ = some (.slice A0_0 l0_0.length c0_0) from rfl); have hfX1_0 := HX1.out.frozen 0; have hxX1_1 := (HX1.out.cell 1).trans (show _ = some (.slice A0_1 l0_1.length c0_1) from rfl); have hfX1_1 := HX1.out.frozen 1; (try clear hxX2_0 hfX2_0 hxX2_1 hfX2_1); have hxX2_0 := (HX2.out.cell 0).trans (show _ = some (.slice none 0 0) from rfl); have hfX2_0 := HX2.out.frozen 0; have hxX2_1 := (HX2.out.cell 1).trans (show _ = some (.slice none 0 0) from rfl); have hfX2_1 := HX2.out.frozen 1))
          go_wp2_with (first | ((with_reducible refine gate_store (t := 29) (p := 6) rfl ?_); refine LB.stored HX2.out HB.out GEX2.out 0 [.slice BF5 y2.length DF5, .slice none 0 0] rfl (t := 29) (p := 6) rfl rfl ?hr ?_; (case hr => first | (go_simp; done) | (go_simp; rfl)); intro w2 hx hk hb; replace HX1 := Aside0.mk (HX1.out.step hk D_X1_X2.out); replace HF4 := Aside0.mk (HF4.out.step hk (apart_symm D_X2_F4.out)); replace HF5 := Aside0.mk (HF5.out.step hk (apart_symm D_X2_F5.out)); replace HB := Aside0.mk hb; replace HX2 := Aside0.mk (show LB w2 PX2 gX2 29 #[.slice BF5 y2.length DF5, .slice none 0 0] from hx); clear hk hx hb; (try clear hxX1_0 hfX1_0 hxX1_1 hfX1_1); have hxX1_0 := (HX1.out.cell 0).trans (show _ = some (.slice A0_0 l0_0.length c0_0) from rfl); have hfX1_0 := HX1.out.frozen 0; have hxX1_1 := (HX1.out.cell 1).trans (show _ = some (.slice A0_1 l0_1.length c0_1) from rfl); have hfX1_1 := HX1.out.frozen 1; (try clear hxX2_0 hfX2_0 hxX2_1 hfX2_1); have hxX2_0 := (HX2.out.cell 0).trans (show _ = some (.slice BF5 y2.length DF5) from rfl); have hfX2_0 := HX2.out.frozen 0; have hxX2_1 := (HX2.out.cell 1).trans (show _ = some (.slice none 0 0) from rfl); have hfX2_1 := HX2.out.frozen 1))
          refine bodyPost_ret (results_cell_row rfl _ _ gX2 29 #[.slice BF5 y2.length DF5, .slice none 0 0] (0, 0) _ rfl HX2.out.2.1 Try.underlying29 rfl (by kernel_rfl)) rfl ?_
          exact ⟨_, _, rfl, Kd.R_mono HF5.out.1 (fun _ _ => trivial), Kd.S_nil _ _ _ _ _, HB.out⟩
      · rw [if_neg c3] at h
        exact absurd h (by simp)
    · rw [if_neg c2] at h
      exact absurd h (by simp)
  · rw [if_neg c1] at h
    exact absurd h (by simp)

/-! ### impl_Disk_size: function 96 -/
def impl_Disk_size.l0 : Nat → Int → List (List Int) → Int → Int → Option (Int)
  | 0, _, _, _, _ => none
  | k + 1, x3, x10, x11, x12 => if x12 < x11 then (if 0 ≤ x12 then (if x12 < (x10.length : Int) then (impl_Disk_size.l0 k (wrap64 (x3 + ((rd_L1 x10 x12).length : Int))) x10 x11 (wrap64 (x12 + 1))) else (none)) else (none)) else (some x3)
def impl_Disk_size.f (k : Nat) (l0_0 : List Int) (l0_1 : List (List Int)) : Option (Int) := impl_Disk_size.l0 k (l0_0.length : Int) l0_1 (l0_1.length : Int) 0
theorem impl_Disk_size.mono_l : ∀ k, (∀ y0 y1 y2 y3, LeO (impl_Disk_size.l0 k y0 y1 y2 y3) (impl_Disk_size.l0 (k + 1) y0 y1 y2 y3))
  | 0 => fun _ _ _ _ r h => by simp [impl_Disk_size.l0] at h
  | k + 1 => by
    have ih0 := impl_Disk_size.mono_l k
    · intro y0 y1 y2 y3
      unfold impl_Disk_size.l0
      repeat' first
      | (with_reducible exact ih0 _ _ _ _)
      | (with_reducible exact LeO.refl _)
      | (with_reducible exact LeO.none _)
      | (with_reducible refine LeO.ite ?_ ?_)
      | (with_reducible refine LeO.bind ?_ (fun _ => ?_))
      | exact ih0 _ _ _ _
      | exact LeO.none _
      | refine LeO.ite ?_ ?_
      | refine LeO.bind ?_ (fun _ => ?_)
theorem impl_Disk_size.mono : ∀ a0 a1 k, LeO (impl_Disk_size.f k a0 a1) (impl_Disk_size.f (k + 1) a0 a1) := by
  intro a0 a1 k
  have ih0 := impl_Disk_size.mono_l k
  unfold impl_Disk_size.f
  repeat' first
      | (with_reducible exact ih0 _ _ _ _)
      | (with_reducible exact LeO.refl _)
      | (with_reducible exact LeO.none _)
      | (with_reducible refine LeO.ite ?_ ?_)
      | (with_reducible refine LeO.bind ?_ (fun _ => ?_))
      | exact ih0 _ _ _ _
      | exact LeO.none _
      | refine LeO.ite ?_ ?_
      | refine LeO.bind ?_ (fun _ => ?_)
set_option maxHeartbeats 8000000 in
set_option maxRecDepth 100000 in
theorem impl_Disk_size.calls (k : Nat) (A0_0 : Option Addr) (c0_0 : Nat) (l0_0 : List Int) (A0_1 : Option Addr) (c0_1 : Nat) (l0_1 : List (List Int)) (r : Int) (w : World) (hr0_0 : Kd.C (Kd.int .u8) w A0_0 l0_0.length l0_0) (hc0_0 : l0_0.length ≤ c0_0) (hr0_1 : Kd.C (Kd.slice 5 (Kd.int .u8)) w A0_1 l0_1.length l0_1) (hc0_1 : l0_1.length ≤ c0_1) (h : impl_Disk_size.f k l0_0 l0_1 = some r) :
    Calls Try.prog 96 #[.agg #[.slice A0_0 l0_0.length c0_0, .slice A0_1 l0_1.length c0_1]] w fun e w' => e = .returned (.int .i64 r) ∧ Below w.heap.size w w' := by
  have hu29 := Try.underlying29
  have HR0_0 := Aside0.mk hr0_0
  have HC0_0 := Aside0.mk hc0_0
  clear hr0_0 hc0_0
  have HR0_1 := Aside0.mk hr0_1
  have HC0_1 := Aside0.mk hc0_1
  clear hr0_1 hc0_1
  have HB := Aside0.mk (Below.refl w.heap.size w)
  have H : (impl_Disk_size.l0 k (l0_0.length : Int) l0_1 (l0_1.length : Int) 0) = some r := h
  clear h
  have H' := Aside0.mk H
  clear H
  go_enter Try.func96, Try.ntmps96
  go_wp2_with (first | ((with_reducible refine gate_dst (N := 1) rfl ?_); refine box_event ?hg (N := 1) ?hd (cs := #[.slice A0_0 l0_0.length c0_0, .slice A0_1 l0_1.length c0_1]) (t := 29) ?hr ?_; (case hd => rfl); (case hg => rfl); (case hr => first | (go_simp; done) | (go_simp; rfl)); intro gb161 hg w2 hbox hb; have n0_ := Aside0.mk (below_step (by repeat (first | (with_reducible first | exact HB.out | apply below_alloc | apply pw_below_drewN | apply below_drew1) | exact HB.out)) hb); have n1_ := Aside0.mk (hbox); have n2_ := Aside0.mk ((by rw [hg]; exact (below_size (by repeat (first | (with_reducible first | exact HB.out | apply below_alloc | apply pw_below_drewN | apply below_drew1) | exact HB.out))) : w.heap.size ≤ gb161)); have n3_ := Aside0.mk ((by rw [hg]; exact (below_size (by repeat (first | (with_reducible first | exact HB.out | apply below_alloc | apply pw_below_drewN | apply below_drew1) | exact HB.out))) : w.heap.size ≤ gb161)); clear HB; have HB := n0_; have BK161 := n1_; have GW161 := n2_; have GE161 := n3_; clear n0_ n1_ n2_ n3_; clear hb hbox hg; have hcz3_0 : w2.cell? ⟨gb161, 0, none⟩ = some (.slice A0_0 l0_0.length c0_0) := (blk_cell BK161.out 0).trans rfl; have hcz3_1 : w2.cell? ⟨gb161, 1, none⟩ = some (.slice A0_1 l0_1.length c0_1) := (blk_cell BK161.out 1).trans rfl; have hfz3_0 := blk_frozen BK161.out 0; have hfz3_1 := blk_frozen BK161.out 1))
  go_loopg [3, 12] k (fun kq v3 v12 w' => ∃ (x3_1 : Int) (x12_1 : Int), v3 = .int .i64 x3_1 ∧ v12 = .int .i64 x12_1 ∧ Aside0 (impl_Disk_size.l0 kq x3_1 l0_1 (l0_1.length : Int) x12_1 = some r) ∧ Aside0 (kq ≤ k) ∧ Aside0 (w'.heap[gb161]? = some (.cells #[(.slice A0_0 l0_0.length c0_0), (.slice A0_1 l0_1.length c0_1)] 29 (0, 0))) ∧ Aside0 (Below w.heap.size w w'))
  case atStart => exact ⟨((l0_0.length : Int)), (0), (by first | rfl | (simp; done) | (simp [*]; done)), (by first | rfl | (simp; done) | (simp [*]; done)), H', ⟨Nat.le_refl _⟩, ⟨by (with_reducible repeat (first | refine blk_drewN ?_ _ | refine blk_drew ?_ | refine blk_alloc ?_ _)); exact BK161.out⟩, ⟨by repeat (first | (with_reducible first | exact HB.out | apply below_alloc | apply pw_below_drewN | apply below_drew1 | refine below_set ?_ GE161.out) | exact HB.out)⟩⟩
  case round =>
    clear H'
    try clear p2
    try clear hcz3_0
    try clear hcz3_1
    try clear hfz3_0
    try clear hfz3_1
    obtain ⟨x3_1, x12_1, rfl, rfl, HA, HK1, BK161, HB⟩ := hrel
    cases gk with
    | zero => exact absurd HA.out (by simp [impl_Disk_size.l0])
    | succ k1 =>
      have H := HA.out
      clear HA
      simp only [impl_Disk_size.l0] at H
      by_cases c4 : x12_1 < (l0_1.length : Int)
      · rw [if_pos c4] at H
        have c4b0 : decide (x12_1 < (l0_1.length : Int)) = true := decide_eq_true c4
        clear c4
        by_cases c5 : 0 ≤ x12_1
        · rw [if_pos c5] at H
          have c5b0 : decide (0 ≤ x12_1) = true := decide_eq_true c5
          clear c5
          by_cases c6 : x12_1 < (l0_1.length : Int)
          · rw [if_pos c6] at H
            have c6b0 : decide (x12_1 < (l0_1.length : Int)) = true := decide_eq_true c6
            clear c6
            have H' := Aside0.mk H
            clear H
            have p162 : 0 ≤ (x12_1 : Int) := of_decide_eq_true (by first | (with_reducible assumption) | assumption)
            have q162 : x12_1 < (l0_1.length : Int) := of_decide_eq_true (by first | (with_reducible assumption) | assumption)
            obtain ⟨ad162, A162_0, c162_0, e162, hx162_0, hl162_0, hi162_0⟩ := at_L1 HR0_1.out x12_1 p162 q162
            cases e162
            replace hx162_0 := (HB.out.cell (World.block_lt_of_cell? w _ hx162_0)).trans hx162_0
            have HR162_0 := Aside0.mk hi162_0
            have HC162_0 := Aside0.mk hl162_0
            clear hi162_0 hl162_0
            replace p162 := eq_true p162
            replace q162 := eq_true q162
            go_wp2
            go_roundg k1
            case measure => have := HK1.out; omega
            case rel => exact ⟨(wrap64 (x3_1 + ((rd_L1 l0_1 x12_1).length : Int))), (wrap64 (x12_1 + 1)), (by first | rfl | (simp; done) | (simp [*]; done)), (by first | rfl | (simp; done) | (simp [*]; done)), H', ⟨by have := HK1.out; omega⟩, ⟨by (with_reducible repeat (first | refine blk_drewN ?_ _ | refine blk_drew ?_ | refine blk_alloc ?_ _)); exact BK161.out⟩, ⟨by repeat (first | (with_reducible first | exact HB.out | apply below_alloc | apply pw_below_drewN | apply below_drew1 | refine below_set ?_ GE161.out) | exact HB.out)⟩⟩
          · rw [if_neg c6] at H
            exact absurd H (by simp)
        · rw [if_neg c5] at H
          exact absurd H (by simp)
      · rw [if_neg c4] at H
        have c4b0 : decide (x12_1 < (l0_1.length : Int)) = false := decide_eq_false c4
        clear c4
        obtain rfl := Option.some.inj H
        go_wp2
        go_ret
        exact ⟨by first | rfl | (simp [errW_none, errW_some] <;> rfl) | (simp [*, errW_none, errW_some] <;> rfl), by repeat (first | (with_reducible first | exact HB.out | apply below_alloc | apply pw_below_drewN | apply below_drew1 | refine below_set ?_ GE161.out) | exact HB.out)⟩

/-! ### impl_within: function 99 -/
def impl_within.f (a0 : Int) (a1 : Int) (a2 : Int) : Option (Bool) := if a1 ≤ a0 then (some (decide (a0 ≤ a2))) else (some false)
set_option maxHeartbeats 8000000 in
set_option maxRecDepth 100000 in
theorem impl_within.calls (a0 : Int) (a1 : Int) (a2 : Int) (r : Bool) (w : World) (h : impl_within.f a0 a1 a2 = some r) :
    Calls Try.prog 99 #[.int .i64 a0, .int .i64 a1, .int .i64 a2] w fun e w' => e = .returned (.bool r) ∧ Drawn0 w w' := by
  have H : (if a1 ≤ a0 then (some (decide (a0 ≤ a2))) else (some false)) = some r := h
  clear h
  by_cases c4 : a1 ≤ a0
  · rw [if_pos c4] at H
    have c4b0 : decide (a1 ≤ a0) = true := decide_eq_true c4
    clear c4
    obtain rfl := Option.some.inj H
    go_enter Try.func99, Try.ntmps99
    go_wp2
    go_ret
    exact ⟨by first | rfl | (simp; done) | (simp [*]; done), by repeat (first | exact Drawn0.refl _ | apply Drawn0.step)⟩
  · rw [if_neg c4] at H
    have c4b0 : decide (a1 ≤ a0) = false := decide_eq_false c4
    clear c4
    obtain rfl := Option.some.inj H
    go_enter Try.func99, Try.ntmps99
    go_wp2
    go_ret
    exact ⟨by first | rfl | (simp; done) | (simp [*]; done), by repeat (first | exact Drawn0.refl _ | apply Drawn0.step)⟩

-- NOT PRINTED: function 72 (impl_Disk_act)

-- NOT PRINTED: function 29 (impl_DiskRun)

/-! ### spec_l02Bytes: function 50 -/
def spec_l02Bytes.l0 : Nat → List Int → Int → List Int → List (List Int) → Option (List Int)
  | 0, _, _, _, _ => none
  | k + 1, x3, x4, x182000, x182001 => if x4 < (x182001.length : Int) then (if 0 ≤ x4 then (if x3.length + (rd_L1 x182001 x4).length < 140737488355328 then (spec_l02Bytes.l0 k (x3 ++ (rd_L1 x182001 x4)) (wrap64 (x4 + 1)) x182000 x182001) else (none)) else (none)) else (some x3)
def spec_l02Bytes.f (k : Nat) (l0_0 : List Int) (l0_1 : List (List Int)) : Option (List Int) := (some (([] : List Int) : List Int)).bind fun y182 => (if y182.length + l0_0.length < 140737488355328 then (spec_l02Bytes.l0 k (y182 ++ l0_0) 0 l0_0 l0_1) else (none))
theorem spec_l02Bytes.mono_l : ∀ k, (∀ y0 y1 y2 y3, LeO (spec_l02Bytes.l0 k y0 y1 y2 y3) (spec_l02Bytes.l0 (k + 1) y0 y1 y2 y3))
  | 0 => fun _ _ _ _ r h => by simp [spec_l02Bytes.l0] at h
  | k + 1 => by
    have ih0 := spec_l02Bytes.mono_l k
    · intro y0 y1 y2 y3
      unfold spec_l02Bytes.l0
      repeat' first
      | (with_reducible exact ih0 _ _ _ _)
      | (with_reducible exact LeO.refl _)
      | (with_reducible exact LeO.none _)
      | (with_reducible refine LeO.ite ?_ ?_)
      | (with_reducible refine LeO.bind ?_ (fun _ => ?_))
      | exact ih0 _ _ _ _
      | exact LeO.none _
      | refine LeO.ite ?_ ?_
      | refine LeO.bind ?_ (fun _ => ?_)
theorem spec_l02Bytes.mono : ∀ a0 a1 k, LeO (spec_l02Bytes.f k a0 a1) (spec_l02Bytes.f (k + 1) a0 a1) := by
  intro a0 a1 k
  have ih0 := spec_l02Bytes.mono_l k
  unfold spec_l02Bytes.f
  repeat' first
      | (with_reducible exact ih0 _ _ _ _)
      | (with_reducible exact LeO.refl _)
      | (with_reducible exact LeO.none _)
      | (with_reducible refine LeO.ite ?_ ?_)
      | (with_reducible refine LeO.bind ?_ (fun _ => ?_))
      | exact ih0 _ _ _ _
      | exact LeO.none _
      | refine LeO.ite ?_ ?_
      | refine LeO.bind ?_ (fun _ => ?_)
set_option maxHeartbeats 8000000 in
set_option maxRecDepth 100000 in
theorem spec_l02Bytes.calls (k : Nat) (A0_0 : Option Addr) (c0_0 : Nat) (l0_0 : List Int) (A0_1 : Option Addr) (c0_1 : Nat) (l0_1 : List (List Int)) (r : List Int) (w : World) (hr0_0 : Kd.C (Kd.int .u8) w A0_0 l0_0.length l0_0) (hc0_0 : l0_0.length ≤ c0_0) (hr0_1 : Kd.C (Kd.slice 5 (Kd.int .u8)) w A0_1 l0_1.length l0_1) (hc0_1 : l0_1.length ≤ c0_1) (h : spec_l02Bytes.f k l0_0 l0_1 = some r) :
    Calls Try.prog 50 #[.agg #[.slice A0_0 l0_0.length c0_0, .slice A0_1 l0_1.length c0_1]] w fun e w' => ∃ v0_ : Value, e = .returned (v0_) ∧ Kd.R (Kd.int .u8) 5 w' w.heap.size (fun _ => True) v0_ r ∧ Below w.heap.size w w' := by
  have hu29 := Try.underlying29
  have HR0_0 := Aside0.mk hr0_0
  have HC0_0 := Aside0.mk hc0_0
  clear hr0_0 hc0_0
  have HR0_1 := Aside0.mk hr0_1
  have HC0_1 := Aside0.mk hc0_1
  clear hr0_1 hc0_1
  have HB := Aside0.mk (Below.refl w.heap.size w)
  have H : ((some (([] : List Int) : List Int)).bind fun y182 => (if y182.length + l0_0.length < 140737488355328 then (spec_l02Bytes.l0 k (y182 ++ l0_0) 0 l0_0 l0_1) else (none))) = some r := h
  clear h
  obtain ⟨y182, hy182⟩ : ∃ y_ : List Int, y_ = (([] : List Int)) := ⟨_, rfl⟩
  replace H : (if y182.length + l0_0.length < 140737488355328 then (spec_l02Bytes.l0 k (y182 ++ l0_0) 0 l0_0 l0_1) else (none)) = some r := by first | (rw [hy182]; with_reducible exact H) | (have H2_ := (Option.bind_some _ _).symm.trans H; rw [hy182]; with_reducible exact H2_) | (have H2_ := (Option.bind_some _ _).symm.trans H; with_reducible exact H2_) | with_reducible exact H | (rw [hy182]; exact H) | exact H
  have Ny182 := Aside0.mk hy182
  clear hy182
  by_cases c2 : y182.length + l0_0.length < 140737488355328
  · rw [if_pos c2] at H
    have LMc2 := Aside0.mk c2
    clear c2
    obtain ⟨y185, hy185⟩ : ∃ y_ : List Int, y_ = (y182 ++ l0_0) := ⟨_, rfl⟩
    replace H : (spec_l02Bytes.l0 k y185 0 l0_0 l0_1) = some r := by first | (rw [hy185]; with_reducible exact H) | (have H2_ := (Option.bind_some _ _).symm.trans H; rw [hy185]; with_reducible exact H2_) | (have H2_ := (Option.bind_some _ _).symm.trans H; with_reducible exact H2_) | with_reducible exact H | (rw [hy185]; exact H) | exact H
    have Ny185 := Aside0.mk hy185
    clear hy185
    have H' := Aside0.mk H
    clear H
    go_enter Try.func50, Try.ntmps50
    go_wp2_with (first | ((with_reducible refine gate_dst (N := 1) rfl ?_); refine box_event ?hg (N := 1) ?hd (cs := #[.slice A0_0 l0_0.length c0_0, .slice A0_1 l0_1.length c0_1]) (t := 29) ?hr ?_; (case hd => rfl); (case hg => rfl); (case hr => first | (go_simp; done) | (go_simp; rfl)); intro gb181 hg w3 hbox hb; have n0_ := Aside0.mk (below_step (by repeat (first | (with_reducible first | exact HB.out | apply below_alloc | apply pw_below_drewN | apply below_drew1) | exact HB.out)) hb); have n1_ := Aside0.mk (hbox); have n2_ := Aside0.mk ((by rw [hg]; exact (below_size (by repeat (first | (with_reducible first | exact HB.out | apply below_alloc | apply pw_below_drewN | apply below_drew1) | exact HB.out))) : w.heap.size ≤ gb181)); have n3_ := Aside0.mk ((by rw [hg]; exact (below_size (by repeat (first | (with_reducible first | exact HB.out | apply below_alloc | apply pw_below_drewN | apply below_drew1) | exact HB.out))) : w.heap.size ≤ gb181)); clear HB; have HB := n0_; have BK181 := n1_; have GW181 := n2_; have GE181 := n3_; clear n0_ n1_ n2_ n3_; clear hb hbox hg) | ((with_reducible refine gate_dst (N := 5) rfl ?_); refine Kd.R_lit (Kd.int .u8) _ 5 ?hg (N := 5) ?hd (xs := ([] : List Int)) (inner := []) (ok := fun _ => True) (okp := fun _ => True) ?hr ?hp (fun _ hk => hk) trivial (Below.refl _ _) (Nat.le_refl _) (by simp) ?_; (case hd => rfl); (case hg => rfl); (case hr => first | (go_simp; done) | (go_simp; rfl)); (case hp => exact (Reps.none _ _)); intro v183 w4 ho5 hb hg_ hnew_; clear hg_ hnew_; (first | rw [← Ny182.out] at ho5 | (simp only [Int.reduceToNat] at ho5; rw [← Ny182.out] at ho5)); have n0_ := Aside0.mk (Kd.R_lower ho5 (below_size (by repeat (first | (with_reducible first | exact HB.out | apply below_alloc | apply pw_below_drewN | apply below_drew1 | refine below_set ?_ GE181.out) | exact HB.out)))); have n1_ := Aside0.mk (blk_below (g := gb181) (o := .cells #[.slice A0_0 l0_0.length c0_0, .slice A0_1 l0_1.length c0_1] 29 (0, 0)) (by (with_reducible repeat (first | refine blk_drewN ?_ _ | refine blk_drew ?_ | refine blk_alloc ?_ _)); exact BK181.out) hb); have n2_ := Aside0.mk (below_step (by repeat (first | (with_reducible first | exact HB.out | apply below_alloc | apply pw_below_drewN | apply below_drew1 | refine below_set ?_ GE181.out) | exact HB.out)) hb); clear BK181; clear HB; have HO184 := n0_; have BK181 := n1_; have HB := n2_; clear n0_ n1_ n2_; clear hb ho5; have hcz6_0 : w4.cell? ⟨gb181, 0, none⟩ = some (.slice A0_0 l0_0.length c0_0) := (blk_cell BK181.out 0).trans rfl; have hcz6_1 : w4.cell? ⟨gb181, 1, none⟩ = some (.slice A0_1 l0_1.length c0_1) := (blk_cell BK181.out 1).trans rfl; have hfz6_0 := blk_frozen BK181.out 0; have hfz6_1 := blk_frozen BK181.out 1) | ((with_reducible refine gate_builtin (b := .append) (xs := #[.tmp 5, .tmp 7]) rfl ?_); at_builtin; refine Kd.R_append_rows (Kd.int .u8) (w0 := w) w.heap.size rfl (.tmp 5) (.tmp 7) 22 5 (.int .u8 0) 1 rfl Try.underlying22 info5 rfl (by decide) (by omega) v183 y182 l0_0 _ _ _ (fun _ => True) (fun _ => False) rfl rfl ?aO ?aR (fun _ _ h => h) (fun _ h => h.elim) ?aF ?aB ?aS ?aL ?_; (case aR => repeat (first | exact (Kd.C_below HR0_0.out HB.out) | (with_reducible refine Kd.C_alloc ?_ _) | (with_reducible refine Kd.C_drewN ?_ _) | (with_reducible refine Kd.C_drew ?_))); (case aB => exact (by repeat (first | (with_reducible first | exact HB.out | apply below_alloc | apply pw_below_drewN | apply below_drew1 | refine below_set ?_ GE181.out) | exact HB.out))); (case aF => exact (fun _ _ => trivial)); (case aO => exact (by (with_reducible repeat (first | apply Kd.R_alloc | apply Kd.R_drewN | apply Kd.R_drew)); exact HO184.out)); (case aS => exact (below_size (by repeat (first | (with_reducible first | exact HB.out | apply below_alloc | apply pw_below_drewN | apply below_drew1 | refine below_set ?_ GE181.out) | exact HB.out)))); (case aL => have := LMc2.out; omega); intro v186 w7 ho hb hg hat; rw [← Ny185.out] at ho; have n0_ := Aside0.mk (blk_grown (g := gb181) (o := .cells #[.slice A0_0 l0_0.length c0_0, .slice A0_1 l0_1.length c0_1] 29 (0, 0)) (by (with_reducible repeat (first | refine blk_drewN ?_ _ | refine blk_drew ?_ | refine blk_alloc ?_ _)); exact BK181.out) hg (Kd.R_ne HO184.out BK181.out (by decide))); have n1_ := Aside0.mk (hb); have n2_ := Aside0.mk (ho); clear BK181; clear HB; clear HO184; have BK181 := n0_; have HB := n1_; have HO187 := n2_; clear n0_ n1_ n2_; clear ho hb hg hat))
    go_loopg [3, 4] k (fun kq v3 v4 w' => ∃ (x3_1 : List Int) (x4_1 : Int), v4 = .int .i64 x4_1 ∧ Aside0 (spec_l02Bytes.l0 kq x3_1 x4_1 l0_0 l0_1 = some r) ∧ Aside0 (kq ≤ k) ∧ Aside0 (Kd.R (Kd.int .u8) 5 w' w.heap.size (fun _ => True) v3 x3_1) ∧ Aside0 (w'.heap[gb181]? = some (.cells #[(.slice A0_0 l0_0.length c0_0), (.slice A0_1 l0_1.length c0_1)] 29 (0, 0))) ∧ Aside0 (Below w.heap.size w w'))
    case atStart => exact ⟨(y185), (0), (by first | rfl | (simp; done) | (simp [*]; done)), H', ⟨Nat.le_refl _⟩, ⟨by (with_reducible repeat (first | apply Kd.R_alloc | apply Kd.R_drewN | apply Kd.R_drew)); exact HO187.out⟩, ⟨by (with_reducible repeat (first | refine blk_drewN ?_ _ | refine blk_drew ?_ | refine blk_alloc ?_ _)); exact BK181.out⟩, ⟨by repeat (first | (with_reducible first | exact HB.out | apply below_alloc | apply pw_below_drewN | apply below_drew1 | refine below_set ?_ GE181.out) | exact HB.out)⟩⟩
    case round =>
      clear H'
      try clear c2
      try clear p2
      try clear c5
      try clear hcz6_0
      try clear hcz6_1
      try clear hfz6_0
      try clear hfz6_1
      obtain ⟨x3_1, x4_1, rfl, HA, HK1, HO_3, BK181, HB⟩ := hrel
      cases gk with
      | zero => exact absurd HA.out (by simp [spec_l02Bytes.l0])
      | succ k1 =>
        have H := HA.out
        clear HA
        simp only [spec_l02Bytes.l0] at H
        by_cases c8 : x4_1 < (l0_1.length : Int)
        · rw [if_pos c8] at H
          have c8b0 : decide (x4_1 < (l0_1.length : Int)) = true := decide_eq_true c8
          clear c8
          by_cases c9 : 0 ≤ x4_1
          · rw [if_pos c9] at H
            have c9b0 : decide (0 ≤ x4_1) = true := decide_eq_true c9
            clear c9
            by_cases c10 : x3_1.length + (rd_L1 l0_1 x4_1).length < 140737488355328
            · rw [if_pos c10] at H
              have LMc10 := Aside0.mk c10
              clear c10
              obtain ⟨y189, hy189⟩ : ∃ y_ : List Int, y_ = (x3_1 ++ (rd_L1 l0_1 x4_1)) := ⟨_, rfl⟩
              replace H : (spec_l02Bytes.l0 k1 y189 (wrap64 (x4_1 + 1)) l0_0 l0_1) = some r := by first | (rw [hy189]; with_reducible exact H) | (have H2_ := (Option.bind_some _ _).symm.trans H; rw [hy189]; with_reducible exact H2_) | (have H2_ := (Option.bind_some _ _).symm.trans H; with_reducible exact H2_) | with_reducible exact H | (rw [hy189]; exact H) | exact H
              have Ny189 := Aside0.mk hy189
              clear hy189
              have H' := Aside0.mk H
              clear H
              have hcz11_0 : wr.cell? ⟨gb181, 0, none⟩ = some (.slice A0_0 l0_0.length c0_0) := (blk_cell BK181.out 0).trans rfl
              have hcz11_1 : wr.cell? ⟨gb181, 1, none⟩ = some (.slice A0_1 l0_1.length c0_1) := (blk_cell BK181.out 1).trans rfl
              have hfz11_0 := blk_frozen BK181.out 0
              have hfz11_1 := blk_frozen BK181.out 1
              have p188 : 0 ≤ (x4_1 : Int) := of_decide_eq_true (by first | (with_reducible assumption) | assumption)
              have q188 : x4_1 < (l0_1.length : Int) := of_decide_eq_true (by first | (with_reducible assumption) | assumption)
              obtain ⟨ad188, A188_0, c188_0, e188, hx188_0, hl188_0, hi188_0⟩ := at_L1 HR0_1.out x4_1 p188 q188
              cases e188
              replace hx188_0 := (HB.out.cell (World.block_lt_of_cell? w _ hx188_0)).trans hx188_0
              have HR188_0 := Aside0.mk hi188_0
              have HC188_0 := Aside0.mk hl188_0
              clear hi188_0 hl188_0
              replace p188 := eq_true p188
              replace q188 := eq_true q188
              go_wp2_with (first | ((with_reducible refine gate_builtin (b := .append) (xs := #[.tmp 16, .tmp 21]) rfl ?_); at_builtin; refine Kd.R_append_rows (Kd.int .u8) (w0 := w) w.heap.size rfl (.tmp 16) (.tmp 21) 22 5 (.int .u8 0) 1 rfl Try.underlying22 info5 rfl (by decide) (by omega) u3 x3_1 (rd_L1 l0_1 x4_1) _ _ _ (fun _ => True) (fun _ => False) rfl rfl ?aO ?aR (fun _ _ h => h) (fun _ h => h.elim) ?aF ?aB ?aS ?aL ?_; (case aR => repeat (first | exact (Kd.C_below HR188_0.out HB.out) | (with_reducible refine Kd.C_alloc ?_ _) | (with_reducible refine Kd.C_drewN ?_ _) | (with_reducible refine Kd.C_drew ?_))); (case aB => exact (by repeat (first | (with_reducible first | exact HB.out | apply below_alloc | apply pw_below_drewN | apply below_drew1 | refine below_set ?_ GE181.out) | exact HB.out))); (case aF => exact (fun _ _ => trivial)); (case aO => exact (by (with_reducible repeat (first | apply Kd.R_alloc | apply Kd.R_drewN | apply Kd.R_drew)); exact HO_3.out)); (case aS => exact (below_size (by repeat (first | (with_reducible first | exact HB.out | apply below_alloc | apply pw_below_drewN | apply below_drew1 | refine below_set ?_ GE181.out) | exact HB.out)))); (case aL => have := LMc10.out; omega); intro v190 w12 ho hb hg hat; rw [← Ny189.out] at ho; have n0_ := Aside0.mk (blk_grown (g := gb181) (o := .cells #[.slice A0_0 l0_0.length c0_0, .slice (some ad188) l0_1.length c0_1] 29 (0, 0)) (by (with_reducible repeat (first | refine blk_drewN ?_ _ | refine blk_drew ?_ | refine blk_alloc ?_ _)); exact BK181.out) hg (Kd.R_ne HO_3.out BK181.out (by decide))); have n1_ := Aside0.mk (hb); have n2_ := Aside0.mk (ho); clear BK181; clear HB; clear HO_3; have BK181 := n0_; have HB := n1_; have HO191 := n2_; clear n0_ n1_ n2_; clear ho hb hg hat))
              go_roundg k1
              case measure => have := HK1.out; omega
              case rel => exact ⟨(y189), (wrap64 (x4_1 + 1)), (by first | rfl | (simp; done) | (simp [*]; done)), H', ⟨by have := HK1.out; omega⟩, ⟨by (with_reducible repeat (first | apply Kd.R_alloc | apply Kd.R_drewN | apply Kd.R_drew)); exact HO191.out⟩, ⟨by (with_reducible repeat (first | refine blk_drewN ?_ _ | refine blk_drew ?_ | refine blk_alloc ?_ _)); exact BK181.out⟩, ⟨by repeat (first | (with_reducible first | exact HB.out | apply below_alloc | apply pw_below_drewN | apply below_drew1 | refine below_set ?_ GE181.out) | exact HB.out)⟩⟩
            · rw [if_neg c10] at H
              exact absurd H (by simp)
          · rw [if_neg c9] at H
            exact absurd H (by simp)
        · rw [if_neg c8] at H
          have c8b0 : decide (x4_1 < (l0_1.length : Int)) = false := decide_eq_false c8
          clear c8
          obtain rfl := Option.some.inj H
          have hcz13_0 : wr.cell? ⟨gb181, 0, none⟩ = some (.slice A0_0 l0_0.length c0_0) := (blk_cell BK181.out 0).trans rfl
          have hcz13_1 : wr.cell? ⟨gb181, 1, none⟩ = some (.slice A0_1 l0_1.length c0_1) := (blk_cell BK181.out 1).trans rfl
          have hfz13_0 := blk_frozen BK181.out 0
          have hfz13_1 := blk_frozen BK181.out 1
          go_wp2
          go_ret
          exact ⟨_, by first | rfl | (simp [errW_none, errW_some] <;> rfl) | (simp [*, errW_none, errW_some] <;> rfl), by (with_reducible repeat (first | apply Kd.R_alloc | apply Kd.R_drewN | apply Kd.R_drew)); exact HO_3.out, by repeat (first | (with_reducible first | exact HB.out | apply below_alloc | apply pw_below_drewN | apply below_drew1 | refine below_set ?_ GE181.out) | exact HB.out)⟩
  · rw [if_neg c2] at H
    exact absurd H (by simp)

end Go.Proofs.Ytfclobfoghbblaa.PFnExactDiskRun
