/- FnFrames: functions walked by hand. No conditions. -/
import Derived.Test.YtkiknhljomobpaaPFnFramesx0
import Derived.Test.YtkiknhljomobpaaPFnFramesx1
import Derived.Test.YtkiknhljomobpaaPFnFramesx2
import Derived.Test.YtkiknhljomobpaaPFnFramesx3
import Derived.Test.YtkiknhljomobpaaPFnFramesx4
import Derived.Test.YtkiknhljomobpaaPFnFramesx5
import Derived.Test.YtkiknhljomobpaaHw
import Derived.Deep.RegionHeld3
import Derived.Deep.Cut
namespace Go.Proofs.Ytkiknhljomobpaa.PFnFrames
open Go.RowKit Go.Proofs.Ytkiknhljomobpaa.Lawful Go.Proofs.YtkiknhljomobpaaW.PrintWords Go.Proofs.YtkiknhljomobpaaW.PrintLast Go.Proofs.YtkiknhljomobpaaW.PrintMore
attribute [local go_sem] max2_int min2_int max_two min_two max_three min_three max_four min_four   -- for this text's walks alone
set_option linter.unusedVariables false
set_option linter.unusedSimpArgs false
/-! ### impl_Feed: function 42, by hand -/
set_option maxHeartbeats 8000000 in
set_option maxRecDepth 100000 in
theorem impl_Feed.own (k : Nat) (A0 : Option Addr) (c0 : Nat) (l0 : List Int) (A1 : Option Addr) (c1 : Nat) (l1 : List (List Int)) (r1 : List (List Int)) (r2 : List Int) (r3 : Int) (w : World) (hr0 : Kd.C (Kd.int .u8) w A0 l0.length l0) (hc0 : l0.length ≤ c0) (hr1 : Kd.C (Kd.slice 5 (Kd.int .u8)) w A1 l1.length l1) (hc1 : l1.length ≤ c1) (h : impl_Feed.f k l0 l1 = some (r1, r2, r3)) :
    Calls Try.prog 42 #[.slice A0 l0.length c0, .slice A1 l1.length c1] w fun e w' => ∃ v0_ v1_ : Value, e = .returned (.tuple #[v0_, v1_, .int .i64 r3]) ∧ Kd.S (Kd.slice 5 (Kd.int .u8)) 22 w' w.heap.size (fun k_ => (w.heap.size ≤ k_) ∧ some k_ ≠ (v1_ : Value).ownBlock) v0_ r1 ∧ Kd.R (Kd.int .u8) 5 w' w.heap.size (fun k_ => (w.heap.size ≤ k_)) v1_ r2 ∧ Below w.heap.size w w' := by
  have HB := Aside0.mk (Below.refl w.heap.size w)
  unfold impl_Feed.f at h
  obtain ⟨t1, e1, h⟩ := Option.bind_eq_some_iff.1 h
  obtain ⟨t2, e2, h⟩ := Option.bind_eq_some_iff.1 h
  obtain ⟨t3, e3, h⟩ := Option.bind_eq_some_iff.1 h
  obtain ⟨y1, hy1⟩ : ∃ y_ : List Int, y_ = [t1, t2] := ⟨_, rfl⟩
  rw [← hy1] at e3
  have Ny1 := Aside0.mk hy1
  have E1 := Aside0.mk e1
  have E2 := Aside0.mk e2
  have E3 := Aside0.mk e3
  clear hy1 e1 e2 e3
  by_cases c : t3 = 0
  · rw [if_pos c] at h
    have cb : (t3 == 0) = true := beq_iff_eq.mpr c
    have cb2 : (t3 != 0) = false := bne_eq_false_iff_eq.mpr c
    clear c
    obtain ⟨t4, e4, h⟩ := Option.bind_eq_some_iff.1 h
    obtain ⟨y2, hy2⟩ : ∃ y_ : List (List Int), y_ = [] := ⟨_, rfl⟩
    rw [← hy2] at h
    have Ny2 := Aside0.mk hy2
    have E4 := Aside0.mk e4
    have H' := Aside0.mk h
    clear e4 h hy2
    go_enter Try.func42, Try.ntmps42
    go_wp2_with (first | ((with_reducible refine gate_callee (f := 67) rfl ?_); refine goesL_ (some 16) rfl rfl Try.func67 (by kernel_rfl) rfl #[.slice A0 l0.length c0] rfl (by (try simp only [List.map_toArray, List.map_cons, List.map_nil]); first | done | rfl | (simp only [List.length_drop, List.length_take]; rfl)) ?_; (with_reducible refine (impl_longBytes.calls _ _ l0 t1 _ (Kd.C_below hr0 HB.out) hc0 E1.out).mono ?_); rintro e w2 ⟨rfl, hq⟩; refine ⟨_, rfl, ?_⟩; have hk := kept_drawn hq; replace HB := Aside0.mk (below_drawn HB.out hq); clear hk hq) | ((with_reducible refine gate_callee (f := 83) rfl ?_); refine goesL_ (some 19) rfl rfl Try.func83 (by kernel_rfl) rfl #[.int .i64 (l1.length : Int)] rfl (by (try simp only [List.map_toArray, List.map_cons, List.map_nil]); first | done | rfl | (simp only [List.length_drop, List.length_take]; rfl)) ?_; (with_reducible refine (impl_longList.calls (l1.length : Int) t2 _ E2.out).mono ?_); rintro e w2 ⟨rfl, hq⟩; refine ⟨_, rfl, ?_⟩; have hk := kept_drawn hq; replace HB := Aside0.mk (below_drawn HB.out hq); clear hk hq) | ((with_reducible refine gate_dst (N := 20) rfl ?_); refine Kd.R_lit (Kd.int .i64) _ 3 ?hg_1 (N := 20) ?hd_1 (xs := ([t1, t2] : List Int)) (inner := [.int .i64 t1, .int .i64 t2]) (ok := fun _ => True) (okp := fun _ => True) ?hr_1 ?hp_1 (fun _ hk => hk) trivial (Below.refl _ _) (Nat.le_refl _) (by simp) ?_; (case hd_1 => rfl); (case hg_1 => rfl); (case hr_1 => first | (go_simp; done) | (go_simp; rfl)); (case hp_1 => exact ⟨rfl, fun j p hj => by match j with | 0 => (obtain rfl := Option.some.inj hj; rfl) | 1 => (obtain rfl := Option.some.inj hj; rfl) | _ + 2 => (simp at hj)⟩); intro vF1 w2 hrF1 hb hg_ hnew_; clear hg_ hnew_; rw [← Ny1.out] at hrF1; have hk := kept_below hb; obtain ⟨PF1, hPF1, HLF1⟩ := LR.fresh rfl HB.out hrF1; have HF1 := Aside0.mk HLF1; clear HLF1 hrF1; clear hPF1; obtain ⟨BF1, DF1, e_F1⟩ := HF1.out.val; subst e_F1; replace HB := Aside0.mk (below_step HB.out hb); clear hb hk) | ((with_reducible refine gate_callee (f := 66) rfl ?_); refine goesL_ (some 21) rfl rfl Try.func66 (by kernel_rfl) rfl #[.slice BF1 y1.length DF1] rfl (by (try simp only [List.map_toArray, List.map_cons, List.map_nil]); first | done | rfl | (simp only [List.length_drop, List.length_take]; rfl)) ?_; (with_reducible refine (impl_first.calls k _ _ y1 t3 _ HF1.out.reads HF1.out.room E3.out).mono ?_); rintro e w2 ⟨rfl, hq⟩; refine ⟨_, rfl, ?_⟩; have hk := kept_drawn hq; replace HF1 := Aside0.mk (HF1.out.step hk no_S); replace HB := Aside0.mk (below_drawn HB.out hq); clear hk hq) | ((with_reducible refine gate_callee (f := 84) rfl ?_); refine goesL_ (some 26) rfl rfl Try.func84 (by kernel_rfl) rfl #[.slice A0 l0.length c0] rfl (by (try simp only [List.map_toArray, List.map_cons, List.map_nil]); first | done | rfl | (simp only [List.length_drop, List.length_take]; rfl)) ?_; (with_reducible refine (slices_Clone_byte_byte.calls _ _ l0 t4 _ (Kd.C_below hr0 HB.out) hc0 E4.out).mono ?_); rintro e w2 ⟨vF2, rfl, hrF2, hb⟩; refine ⟨_, rfl, ?_⟩; have hk := kept_below hb; obtain ⟨PF2, hPF2, HLF2⟩ := LR.fresh rfl HB.out hrF2; have HF2 := Aside0.mk HLF2; clear HLF2 hrF2; have D_F1_F2 := Aside0.mk (new_apart HF1.out.lt hPF2); replace HF1 := Aside0.mk (HF1.out.step hk no_S); clear hPF2; obtain ⟨BF2, DF2, e_F2⟩ := HF2.out.val; subst e_F2; replace HB := Aside0.mk (below_step HB.out hb); clear hb hk) | ((with_reducible refine gate_dst (N := 27) rfl ?_); refine Kd.S_lit (Kd.slice 5 (Kd.int .u8)) _ 22 ?hg_2 (N := 27) ?hd_2 (xs := ([] : List (List Int))) (inner := []) (ok := fun _ => True) (okp := fun _ => True) ?hr_2 ?hp_2 (fun _ hk => hk) trivial (Below.refl _ _) (Nat.le_refl _) (by simp) ?_; (case hd_2 => rfl); (case hg_2 => rfl); (case hr_2 => first | (go_simp; done) | (go_simp; rfl)); (case hp_2 => exact (Reps.none _ _)); intro vF3 w2 hrF3 hb hg_ hnew_; clear hg_ hnew_; rw [← Ny2.out] at hrF3; have hk := kept_below hb; obtain ⟨PF3, hPF3, HLF3⟩ := LS.fresh HB.out hrF3; have HF3 := Aside0.mk HLF3; clear HLF3 hrF3; have D_F1_F3 := Aside0.mk (new_apart HF1.out.lt hPF3); have D_F2_F3 := Aside0.mk (new_apart HF2.out.lt hPF3); replace HF1 := Aside0.mk (HF1.out.step hk no_S); replace HF2 := Aside0.mk (HF2.out.step hk no_S); clear hPF3; obtain ⟨BF3, DF3, e_F3⟩ := HF3.out.val; subst e_F3; replace HB := Aside0.mk (below_step HB.out hb); clear hb hk))
    go_loopg [8, 9, 30] k (fun kq v8 v9 v30 w' => ∃ (x8 : List Int) (x9 : List (List Int)) (x30 : Int) (P8 P9 : Nat → Prop), v30 = .int .i64 x30 ∧ Aside0 (impl_Feed.l0 kq x8 x9 l1 (l1.length : Int) x30 = some (r1, r2, r3)) ∧ Aside0 (kq ≤ k) ∧ Aside0 (LR (Kd.int .u8) 5 w' w.heap.size P8 v8 x8) ∧ Aside0 (LS (Kd.slice 5 (Kd.int .u8)) 22 w' w.heap.size P9 v9 x9) ∧ Aside0 (∀ k_, P8 k_ → ¬ P9 k_) ∧ Aside0 (Below w.heap.size w w'))
    case atStart => exact ⟨t4, y2, 0, PF2, PF3, rfl, H', ⟨Nat.le_refl _⟩, HF2, HF3, ⟨D_F2_F3.out⟩, HB⟩
    case round =>
      clear H' HB HF1 HF2 HF3
      obtain ⟨x8, x9, x30, P8, P9, rfl, HA, HK1, H8, H9, D_8_9, HB⟩ := hrel
      cases gk with
      | zero => exact absurd HA.out (by simp [impl_Feed.l0])
      | succ k1 =>
        have H := HA.out
        clear HA
        simp only [impl_Feed.l0] at H
        obtain ⟨B8, D8, e_8⟩ := H8.out.val
        subst e_8
        obtain ⟨B9, D9, e_9⟩ := H9.out.val
        subst e_9
        by_cases c1 : x30 < (l1.length : Int)
        · rw [if_pos c1] at H
          by_cases c2 : 0 ≤ x30
          · rw [if_pos c2, if_pos c1] at H
            have cb1 : decide (x30 < (l1.length : Int)) = true := decide_eq_true c1
            have cb2 : decide (0 ≤ x30) = true := decide_eq_true c2
            obtain ⟨adx, Ax, cx, ex, hx, hlx, hix⟩ := at_L2 hr1 x30 c2 c1
            cases ex
            replace hx := (HB.out.cell (World.block_lt_of_cell? w _ hx)).trans hx
            obtain ⟨z, hz⟩ : ∃ z, z = rd_L2 l1 x30 := ⟨_, rfl⟩
            rw [← hz] at H hx hlx hix
            have HIX := Aside0.mk hix
            have HLX := Aside0.mk hlx
            have HR0 := Aside0.mk hr1
            clear hix hlx hr1 hz
            replace c1 := eq_true c1
            replace c2 := eq_true c2
            by_cases c3 : wrap64 ((x8.length : Int) + (z.length : Int)) > 65536
            · rw [if_pos c3] at H
              have cb3 : decide (65536 < wrap64 ((x8.length : Int) + (z.length : Int))) = true := decide_eq_true c3
              clear c3
              simp only [Option.some.injEq, Prod.mk.injEq] at H
              obtain ⟨rfl, rfl, rfl⟩ := H
              go_wp2
              go_ret3
              exact ⟨_, _, rfl, Kd.S_nil _ _ _ _ _, Kd.R_nil _ _ _ _ _, HB.out⟩
            · rw [if_neg c3] at H
              have cb3 : decide (65536 < wrap64 ((x8.length : Int) + (z.length : Int))) = false := decide_eq_false c3
              clear c3
              by_cases c4 : x8.length + z.length < 140737488355328
              · rw [if_pos c4] at H
                have LM4 := Aside0.mk c4
                clear c4
                simp only [Option.bind_some] at H
                obtain ⟨y3, hy3⟩ : ∃ y_ : List Int, y_ = x8 ++ z := ⟨_, rfl⟩
                rw [← hy3] at H
                have Ny3 := Aside0.mk hy3
                clear hy3
                obtain ⟨⟨t5, t6, t7⟩, e5, H⟩ := Option.bind_eq_some_iff.1 H
                have E5 := Aside0.mk e5
                clear e5
                simp only at H
                by_cases c5 : t7 = 0
                · rw [if_pos c5] at H
                  have cb5 : (t7 == 0) = true := beq_iff_eq.mpr c5
                  have cb52 : (t7 != 0) = false := bne_eq_false_iff_eq.mpr c5
                  clear c5
                  by_cases c6 : x9.length + t5.length < 5864062014805
                  · rw [if_pos c6] at H
                    have LM6 := Aside0.mk c6
                    clear c6
                    by_cases c7 : 0 ≤ t6
                    · rw [if_pos c7] at H
                      by_cases c8 : t6 ≤ (y3.length : Int)
                      · rw [if_pos c8] at H
                        obtain ⟨y4, hy4⟩ : ∃ y_ : List Int, y_ = y3.drop t6.toNat := ⟨_, rfl⟩
                        rw [← hy4] at H
                        obtain ⟨t8, e8, H⟩ := Option.bind_eq_some_iff.1 H
                        obtain ⟨y5, hy5⟩ : ∃ y_ : List (List Int), y_ = x9 ++ t5 := ⟨_, rfl⟩
                        rw [← hy5] at H
                        have Ny5 := Aside0.mk hy5
                        have Ny4 := Aside0.mk hy4
                        have E8 := Aside0.mk e8
                        have H' := Aside0.mk H
                        clear H e8 hy4 hy5
                        have C7 := Aside0.mk c7
                        have C8 := Aside0.mk c8
                        clear c7 c8
                        go_upto_region 14 with (first | ((with_reducible refine gate_builtin (b := .append) (xs := #[.tmp 40, .tmp 41]) rfl ?_); at_builtin; refine LR.append_read (Kd.int .u8) (w0 := w) rfl (.tmp 40) (.tmp 41) 22 5 (.int .u8 0) 1 rfl Try.underlying22 info5 rfl (by decide) (by omega) (.slice B8 x8.length D8) x8 z _ _ _ rfl rfl (fun _ _ h_ => h_) H8.out (Kd.C_below HIX.out HB.out) HB.out ?aL_3 ?_; (case aL_3 => have := LM4.out; omega); intro PF4 v_ w2 HL hb hk hR; have D_9_F4 := Aside0.mk (apart_app hR H9.out.lt (apart_symm D_8_9.out)); replace H9 := Aside0.mk (H9.out.step hk (apart_symm D_8_9.out)); rw [← Ny3.out] at HL; have HF4 := Aside0.mk HL; replace HB := Aside0.mk hb; clear hR HL hb hk; clear H8; obtain ⟨BF4, DF4, e_F4⟩ := HF4.out.val; subst e_F4) | ((with_reducible refine gate_callee (f := 77) rfl ?_); refine goesL_ (some 45) rfl rfl Try.func77 (by kernel_rfl) rfl #[.slice BF4 y3.length DF4] rfl (by (try simp only [List.map_toArray, List.map_cons, List.map_nil]); first | done | rfl | (simp only [List.length_drop, List.length_take]; rfl)) ?_; (with_reducible refine (impl_unframe.calls k1 _ _ y3 t5 t6 t7 _ HF4.out.reads HF4.out.room E5.out).mono ?_); rintro e w2 ⟨vF5, rfl, hrF5, hb⟩; refine ⟨_, rfl, ?_⟩; have hk := kept_below hb; obtain ⟨PF5, hPF5, HLF5⟩ := LS.fresh HB.out hrF5; have HF5 := Aside0.mk HLF5; clear HLF5 hrF5; have D_9_F5 := Aside0.mk (new_apart H9.out.lt hPF5); have D_F4_F5 := Aside0.mk (new_apart HF4.out.lt hPF5); replace H9 := Aside0.mk (H9.out.step hk no_S); replace HF4 := Aside0.mk (HF4.out.step hk no_S); clear hPF5; obtain ⟨BF5, DF5, e_F5⟩ := HF5.out.val; subst e_F5; replace HB := Aside0.mk (below_step HB.out hb); clear hb hk))
                        obtain ⟨i05, hi05, _, hsz5, _⟩ := info_parts info5
                        obtain ⟨A5, c5, hlc5, hcut5, hC5⟩ := cut_drop (d := (Kd.int .u8)) (P := Try.prog) 22 5 .i64 Try.underlying22 hi05 hsz5 BF4 DF4 t6 y4 Ny4.out HF4.out.room C7.out C8.out
                        have HLC5 := Aside0.mk hlc5
                        have HC5 := Aside0.mk hC5
                        clear hlc5 hC5 hi05 hsz5
                        go_region_held3 (fun w' => True) (go_keep) (first | ((try (generalize hwd_ : World.drew _ = wd_; have hk := kept_drew hwd_; replace H9 := Aside0.mk (H9.out.step hk no_S); replace HF4 := Aside0.mk (HF4.out.step hk no_S); replace HF5 := Aside0.mk (HF5.out.step hk no_S); replace HB := Aside0.mk (below_drewd HB.out hwd_); clear hk hwd_; skip)); (refine LS.append_rows_step (Kd.slice 5 (Kd.int .u8)) (w0 := w) (by rfl) (.tmp 52) (.tmp 53) 51 22 (.slice none 0 0) 24 rfl Try.underlying51 info22 rfl (by decide) (by omega) (.slice B9 x9.length D9) x9 t5 _ _ _ rfl rfl H9.out HF5.out D_9_F5.out HB.out ?aL_4 ?_; (case aL_4 => have := LM6.out; omega); intro PF6 v_ w2 HL hb hk hR; have D_F4_F6 := Aside0.mk (apart_app hR HF4.out.lt (apart_or (apart_symm D_9_F4.out) D_F4_F5.out)); replace HF4 := Aside0.mk (HF4.out.step hk (apart_symm D_9_F4.out)); rw [← Ny5.out] at HL; have HF6 := Aside0.mk HL; replace HB := Aside0.mk hb; clear hR HL hb hk; clear H9; clear HF5; obtain ⟨BF6, DF6, e_F6⟩ := HF6.out.val; subst e_F6)) | (go_at_call 84; (with_reducible refine (slices_Clone_byte_byte.calls _ _ y4 t8 _ (HC5.out _ HF4.out.reads) HLC5.out E8.out).mono ?_); rintro e w2 ⟨vF7, rfl, hrF7, hb⟩; have hk := kept_below hb; obtain ⟨PF7, hPF7, HLF7⟩ := LR.fresh rfl HB.out hrF7; have HF7 := Aside0.mk HLF7; clear HLF7 hrF7; have D_F4_F7 := Aside0.mk (new_apart HF4.out.lt hPF7); have D_F6_F7 := Aside0.mk (new_apart HF6.out.lt hPF7); replace HF4 := Aside0.mk (HF4.out.step hk no_S); replace HF6 := Aside0.mk (HF6.out.step hk no_S); clear hPF7; obtain ⟨BF7, DF7, e_F7⟩ := HF7.out.val; subst e_F7; replace HB := Aside0.mk (below_step HB.out hb); clear hb hk))
                        go_wp2
                        go_roundg k1
                        case measure => have := HK1.out; omega
                        case rel => exact ⟨t8, y5, wrap64 (x30 + 1), PF7, PF6, rfl, H', ⟨by have := HK1.out; omega⟩, HF7, HF6, ⟨(apart_symm D_F6_F7.out)⟩, HB⟩
                      · rw [if_neg c8] at H
                        exact absurd H (by simp)
                    · rw [if_neg c7] at H
                      exact absurd H (by simp)
                  · rw [if_neg c6] at H
                    exact absurd H (by simp)
                · rw [if_neg c5] at H
                  have cb5 : (t7 == 0) = false := beq_eq_false_iff_ne.mpr c5
                  have cb52 : (t7 != 0) = true := bne_iff_ne.mpr c5
                  clear c5
                  simp only [Option.some.injEq, Prod.mk.injEq] at H
                  obtain ⟨rfl, rfl, rfl⟩ := H
                  go_wp2_with (first | ((with_reducible refine gate_builtin (b := .append) (xs := #[.tmp 40, .tmp 41]) rfl ?_); at_builtin; refine LR.append_read (Kd.int .u8) (w0 := w) rfl (.tmp 40) (.tmp 41) 22 5 (.int .u8 0) 1 rfl Try.underlying22 info5 rfl (by decide) (by omega) (.slice B8 x8.length D8) x8 z _ _ _ rfl rfl (fun _ _ h_ => h_) H8.out (Kd.C_below HIX.out HB.out) HB.out ?aL_3 ?_; (case aL_3 => have := LM4.out; omega); intro PF4 v_ w2 HL hb hk hR; have D_9_F4 := Aside0.mk (apart_app hR H9.out.lt (apart_symm D_8_9.out)); replace H9 := Aside0.mk (H9.out.step hk (apart_symm D_8_9.out)); rw [← Ny3.out] at HL; have HF4 := Aside0.mk HL; replace HB := Aside0.mk hb; clear hR HL hb hk; clear H8; obtain ⟨BF4, DF4, e_F4⟩ := HF4.out.val; subst e_F4) | ((with_reducible refine gate_callee (f := 77) rfl ?_); refine goesL_ (some 45) rfl rfl Try.func77 (by kernel_rfl) rfl #[.slice BF4 y3.length DF4] rfl (by (try simp only [List.map_toArray, List.map_cons, List.map_nil]); first | done | rfl | (simp only [List.length_drop, List.length_take]; rfl)) ?_; (with_reducible refine (impl_unframe.calls k1 _ _ y3 t5 t6 t7 _ HF4.out.reads HF4.out.room E5.out).mono ?_); rintro e w2 ⟨vF5, rfl, hrF5, hb⟩; refine ⟨_, rfl, ?_⟩; have hk := kept_below hb; obtain ⟨PF5, hPF5, HLF5⟩ := LS.fresh HB.out hrF5; have HF5 := Aside0.mk HLF5; clear HLF5 hrF5; have D_9_F5 := Aside0.mk (new_apart H9.out.lt hPF5); have D_F4_F5 := Aside0.mk (new_apart HF4.out.lt hPF5); replace H9 := Aside0.mk (H9.out.step hk no_S); replace HF4 := Aside0.mk (HF4.out.step hk no_S); clear hPF5; obtain ⟨BF5, DF5, e_F5⟩ := HF5.out.val; subst e_F5; replace HB := Aside0.mk (below_step HB.out hb); clear hb hk))
                  go_ret3
                  exact ⟨_, _, rfl, Kd.S_nil _ _ _ _ _, Kd.R_nil _ _ _ _ _, HB.out⟩
              · rw [if_neg c4] at H
                exact absurd H (by simp)
          · rw [if_neg c2] at H
            exact absurd H (by simp)
        · rw [if_neg c1] at H
          have cb1 : decide (x30 < (l1.length : Int)) = false := decide_eq_false c1
          clear c1
          simp only [Option.some.injEq, Prod.mk.injEq] at H
          obtain ⟨rfl, rfl, rfl⟩ := H
          go_wp2
          go_ret3
          exact ⟨_, _, rfl, LS.out H9.out H8.out.1.1 D_8_9.out, LR.out H8.out, HB.out⟩
  · rw [if_neg c] at h
    have cb : (t3 == 0) = false := beq_eq_false_iff_ne.mpr c
    have cb2 : (t3 != 0) = true := bne_iff_ne.mpr c
    clear c
    simp only [Option.some.injEq, Prod.mk.injEq] at h
    obtain ⟨rfl, rfl, rfl⟩ := h
    go_enter Try.func42, Try.ntmps42
    go_wp2_with (first | ((with_reducible refine gate_callee (f := 67) rfl ?_); refine goesL_ (some 16) rfl rfl Try.func67 (by kernel_rfl) rfl #[.slice A0 l0.length c0] rfl (by (try simp only [List.map_toArray, List.map_cons, List.map_nil]); first | done | rfl | (simp only [List.length_drop, List.length_take]; rfl)) ?_; (with_reducible refine (impl_longBytes.calls _ _ l0 t1 _ (Kd.C_below hr0 HB.out) hc0 E1.out).mono ?_); rintro e w2 ⟨rfl, hq⟩; refine ⟨_, rfl, ?_⟩; have hk := kept_drawn hq; replace HB := Aside0.mk (below_drawn HB.out hq); clear hk hq) | ((with_reducible refine gate_callee (f := 83) rfl ?_); refine goesL_ (some 19) rfl rfl Try.func83 (by kernel_rfl) rfl #[.int .i64 (l1.length : Int)] rfl (by (try simp only [List.map_toArray, List.map_cons, List.map_nil]); first | done | rfl | (simp only [List.length_drop, List.length_take]; rfl)) ?_; (with_reducible refine (impl_longList.calls (l1.length : Int) t2 _ E2.out).mono ?_); rintro e w2 ⟨rfl, hq⟩; refine ⟨_, rfl, ?_⟩; have hk := kept_drawn hq; replace HB := Aside0.mk (below_drawn HB.out hq); clear hk hq) | ((with_reducible refine gate_dst (N := 20) rfl ?_); refine Kd.R_lit (Kd.int .i64) _ 3 ?hg_5 (N := 20) ?hd_5 (xs := ([t1, t2] : List Int)) (inner := [.int .i64 t1, .int .i64 t2]) (ok := fun _ => True) (okp := fun _ => True) ?hr_5 ?hp_5 (fun _ hk => hk) trivial (Below.refl _ _) (Nat.le_refl _) (by simp) ?_; (case hd_5 => rfl); (case hg_5 => rfl); (case hr_5 => first | (go_simp; done) | (go_simp; rfl)); (case hp_5 => exact ⟨rfl, fun j p hj => by match j with | 0 => (obtain rfl := Option.some.inj hj; rfl) | 1 => (obtain rfl := Option.some.inj hj; rfl) | _ + 2 => (simp at hj)⟩); intro vF8 w2 hrF8 hb hg_ hnew_; clear hg_ hnew_; rw [← Ny1.out] at hrF8; have hk := kept_below hb; obtain ⟨PF8, hPF8, HLF8⟩ := LR.fresh rfl HB.out hrF8; have HF8 := Aside0.mk HLF8; clear HLF8 hrF8; clear hPF8; obtain ⟨BF8, DF8, e_F8⟩ := HF8.out.val; subst e_F8; replace HB := Aside0.mk (below_step HB.out hb); clear hb hk) | ((with_reducible refine gate_callee (f := 66) rfl ?_); refine goesL_ (some 21) rfl rfl Try.func66 (by kernel_rfl) rfl #[.slice BF8 y1.length DF8] rfl (by (try simp only [List.map_toArray, List.map_cons, List.map_nil]); first | done | rfl | (simp only [List.length_drop, List.length_take]; rfl)) ?_; (with_reducible refine (impl_first.calls k _ _ y1 t3 _ HF8.out.reads HF8.out.room E3.out).mono ?_); rintro e w2 ⟨rfl, hq⟩; refine ⟨_, rfl, ?_⟩; have hk := kept_drawn hq; replace HF8 := Aside0.mk (HF8.out.step hk no_S); replace HB := Aside0.mk (below_drawn HB.out hq); clear hk hq))
    go_ret3
    exact ⟨_, _, rfl, Kd.S_nil _ _ _ _ _, Kd.R_nil _ _ _ _ _, HB.out⟩
/-- The loop of laws.FnFrames: the frames behind each other. -/
def laws_FnFrames.l0 : Nat → List (List Int) → Int → List Int → Option (List Int)
  | 0, _, _, _ => none
  | k + 1, ps, i, fr => if i < (ps.length : Int) then (if 0 ≤ i then ((impl_Frame.f k (rd_L2 ps i)).bind fun t => (if t.2 = 0 then (if fr.length + t.1.length < 140737488355328 then laws_FnFrames.l0 k ps (wrap64 (i + 1)) (fr ++ t.1) else none) else none)) else none) else some fr
end Go.Proofs.Ytkiknhljomobpaa.PFnFrames
