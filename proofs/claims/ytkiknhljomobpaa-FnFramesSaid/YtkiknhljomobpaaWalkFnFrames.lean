/- The walk of the law FnFrames, by hand. -/
import Derived.Test.YtkiknhljomobpaaPFnFramesx0
import Derived.Test.YtkiknhljomobpaaPFnFramesx1
import Derived.Test.YtkiknhljomobpaaPFnFramesx2
import Derived.Test.YtkiknhljomobpaaPFnFramesx3
import Derived.Test.YtkiknhljomobpaaPFnFramesx4
import Derived.Test.YtkiknhljomobpaaPFnFramesx5
import Derived.Test.YtkiknhljomobpaaHandFnFrames
import Derived.Test.YtkiknhljomobpaaHw
import Derived.Test.YtkiknhljomobpaaWGuard
import Derived.Test.YtkiknhljomobpaaWNEv
import Derived.Deep.RegionHeld3
import Derived.Deep.Cut
namespace Go.Proofs.Ytkiknhljomobpaa.PFnFrames
open Go.RowKit Go.Proofs.Ytkiknhljomobpaa.Lawful Go.Proofs.YtkiknhljomobpaaW.PrintWords Go.Proofs.YtkiknhljomobpaaW.PrintLast Go.Proofs.YtkiknhljomobpaaW.PrintMore
set_option linter.unusedVariables false
set_option linter.unusedSimpArgs false
def laws_FnFrames.T17 : Bool × List (List Nat × List Nat) := (true, [([], []), ([], []), ([0, 1], [0, 1]), ([], []), ([], []), ([], []), ([3, 4, 5], [3, 4, 5]), ([], []), ([], []), ([], []), ([8, 9], [8, 9]), ([6, 7, 10], [6, 7, 10]), ([2, 11], [2, 11]), ([12], [12]), ([13], [13]), ([13], [13]), ([13], [13]), ([14, 12, 0, 1, 2, 3, 4, 5, 6, 7, 8, 9, 10, 11, 12, 13, 14], [14]), ([15, 17, 0, 1, 2, 3, 4, 5, 6, 7, 8, 9, 10, 11, 12, 13, 14, 15, 17], [15]), ([16, 18, 0, 1, 2, 3, 4, 5, 6, 7, 8, 9, 10, 11, 12, 13, 14, 15, 16, 17, 18], [16])])
def laws_FnFrames.B17 : List Nat := [0, 0, 3, 0, 0, 0, 56, 0, 0, 0, 768, 2040, 4095, 8191, 16383, 16383, 16383, 32767, 196607, 524287]
theorem laws_FnFrames.tab17 : rtab .any (opsOf Try.f10 17) = laws_FnFrames.T17 := by kernel_rfl
theorem laws_FnFrames.bits17 : waitsOk laws_FnFrames.T17.2 laws_FnFrames.B17 = true := by kernel_rfl
set_option maxHeartbeats 16000000 in
set_option maxRecDepth 100000 in
theorem laws_FnFrames.early0 (A0 : Option Addr) (c0 : Nat) (l0 : List Int) (A1 : Option Addr) (c1 : Nat) (l1 : List Int) (w : World) (g0 : decide (1048576 < (l0.length : Int)) = true) :
    Calls Try.prog 10 #[.slice A0 l0.length c0, .slice A1 l1.length c1] w fun e w' => e = .returned (.bool true) ∧ Below w.heap.size w w' := by
  have HB := Aside0.mk (Below.refl w.heap.size w)
  go_enter Try.func10, Try.ntmps10
  go_wp2
  go_ret
  exact ⟨rfl, HB.out⟩
set_option maxHeartbeats 16000000 in
set_option maxRecDepth 100000 in
theorem laws_FnFrames.early1 (A0 : Option Addr) (c0 : Nat) (l0 : List Int) (A1 : Option Addr) (c1 : Nat) (l1 : List Int) (w : World) (g0 : decide (1048576 < (l0.length : Int)) = false) (g1 : decide (1048576 < (l1.length : Int)) = true) :
    Calls Try.prog 10 #[.slice A0 l0.length c0, .slice A1 l1.length c1] w fun e w' => e = .returned (.bool true) ∧ Below w.heap.size w w' := by
  have HB := Aside0.mk (Below.refl w.heap.size w)
  go_enter Try.func10, Try.ntmps10
  go_wp2
  go_ret
  exact ⟨rfl, HB.out⟩
set_option maxHeartbeats 16000000 in
set_option maxRecDepth 100000 in
theorem laws_FnFrames.walk (k : Nat) (A0 : Option Addr) (c0 : Nat) (l0 : List Int) (A1 : Option Addr) (c1 : Nat) (l1 : List Int) (ps pp y4 y5 : List (List Int)) (fr y1 y2 y3 q : List Int) (a b0 b n2 : Int) (w : World) (hr0 : Kd.C (Kd.int .u8) w A0 l0.length l0) (hc0 : l0.length ≤ c0) (hr1 : Kd.C (Kd.int .u8) w A1 l1.length l1) (hc1 : l1.length ≤ c1) (g0 : decide (1048576 < (l0.length : Int)) = false) (g1 : decide (1048576 < (l1.length : Int)) = false) (hb : wrap64 (a + b0) = b) (ha0 : 0 ≤ a) (hab : a ≤ b) (hbl : b ≤ (fr.length : Int)) (hy1 : y1 = fr.take a.toNat) (hy2 : y2 = (fr.take b.toNat).drop a.toNat) (hy3 : y3 = fr.drop b.toNat) (hy4 : y4 = [y2, [], y3]) (hpl : pp.length ≤ ps.length) (hy5 : y5 = ps.take (pp.length : Int).toNat) (gq : ((q.length : Int) == 0) = true) (gn : decide (n2 ≤ a) = true) (e1 : spec_PayloadsOf.f k l0 = some ps) (e2 : laws_FnFrames.l0 k ps 0 [] = some fr) (e3 : impl_Unframe.f k fr = some (ps, (fr.length : Int), 0)) (e4 : laws_sameLists.f k ps ps = some true) (e5 : laws_at.f l1 0 (wrap64 ((fr.length : Int) + 1)) = some a) (e6 : laws_at.f l1 1 (wrap64 (wrap64 ((fr.length : Int) - a) + 1)) = some b0) (e7 : impl_Feed.f k y1 y4 = some (ps, q, 0)) (e8 : impl_Unframe.f k y1 = some (pp, n2, 0)) (e9 : laws_sameLists.f k pp y5 = some true) :
    Calls Try.prog 10 #[.slice A0 l0.length c0, .slice A1 l1.length c1] w fun e w' => e = .returned (.bool true) ∧ Below w.heap.size w w' := by
  have E1 := Aside0.mk e1
  have E2 := Aside0.mk e2
  have E3 := Aside0.mk e3
  have E4 := Aside0.mk e4
  have E5 := Aside0.mk e5
  have E6 := Aside0.mk e6
  have E7 := Aside0.mk e7
  have E8 := Aside0.mk e8
  have E9 := Aside0.mk e9
  have Nha0 := Aside0.mk ha0
  have Nhab := Aside0.mk hab
  have Nhbl := Aside0.mk hbl
  have Nhy1 := Aside0.mk hy1
  have Nhy2 := Aside0.mk hy2
  have Nhy3 := Aside0.mk hy3
  have Nhy4 := Aside0.mk hy4
  have Nhy5 := Aside0.mk hy5
  have Nhpl := Aside0.mk hpl
  have gp := (decide_eq_true hpl : decide (pp.length ≤ ps.length) = true)
  have gp2 : decide ((pp.length : Int) ≤ (ps.length : Int)) = true := decide_eq_true (by omega)
  have HR0 := Aside0.mk hr0
  have HR1 := Aside0.mk hr1
  have HL0 := Aside0.mk hc0
  have HL1 := Aside0.mk hc1
  obtain ⟨y0, hy0⟩ : ∃ y_ : List Int, y_ = [] := ⟨_, rfl⟩
  have Ny0 := Aside0.mk hy0
  have H' := Aside0.mk (show laws_FnFrames.l0 k ps 0 y0 = some fr from by rw [hy0]; exact e2)
  clear ha0 hab hbl hy0 hy1 hy2 hy3 hy4 hy5 hpl hr0 hr1 hc0 hc1 e1 e2 e3 e4 e5 e6 e7 e8 e9
  have HB := Aside0.mk (Below.refl w.heap.size w)
  go_enter Try.func10, Try.ntmps10
  go_wp2_with (first | ((with_reducible refine gate_callee (f := 40) rfl ?_); refine goesL_ (some 30) rfl rfl Try.func40 (by kernel_rfl) rfl #[.slice A0 l0.length c0] rfl (by (try simp only [List.map_toArray, List.map_cons, List.map_nil]); first | done | rfl | (simp only [List.length_drop, List.length_take]; rfl)) ?_; (with_reducible refine (spec_PayloadsOf.calls k _ _ l0 ps _ (Kd.C_below HR0.out HB.out) HL0.out E1.out).mono ?_); rintro e w2 ⟨vF1, rfl, hrF1, hb⟩; refine ⟨_, rfl, ?_⟩; have hk := kept_below hb; obtain ⟨PF1, hPF1, HLF1⟩ := LS.fresh HB.out hrF1; have HF1 := Aside0.mk HLF1; clear HLF1 hrF1; clear hPF1; obtain ⟨BF1, DF1, e_F1⟩ := HF1.out.val; subst e_F1; replace HB := Aside0.mk (below_step HB.out hb); clear hb hk) | ((with_reducible refine gate_dst (N := 31) rfl ?_); refine Kd.R_lit (Kd.int .u8) _ 5 ?hg_1 (N := 31) ?hd_1 (xs := ([] : List Int)) (inner := []) (ok := fun _ => True) (okp := fun _ => True) ?hr_1 ?hp_1 (fun _ hk => hk) trivial (Below.refl _ _) (Nat.le_refl _) (by simp) ?_; (case hd_1 => rfl); (case hg_1 => rfl); (case hr_1 => first | (go_simp; done) | (go_simp; rfl)); (case hp_1 => exact (Reps.none _ _)); intro vF2 w2 hrF2 hb hg_ hnew_; clear hg_ hnew_; rw [← Ny0.out] at hrF2; have hk := kept_below hb; obtain ⟨PF2, hPF2, HLF2⟩ := LR.fresh rfl HB.out hrF2; have HF2 := Aside0.mk HLF2; clear HLF2 hrF2; have D_F1_F2 := Aside0.mk (new_apart HF1.out.lt hPF2); replace HF1 := Aside0.mk (HF1.out.step hk no_S); clear hPF2; obtain ⟨BF2, DF2, e_F2⟩ := HF2.out.val; subst e_F2; replace HB := Aside0.mk (below_step HB.out hb); clear hb hk))
  go_loopg [6, 7] k (fun kq v6 v7 w' => ∃ (x6 : List Int) (i : Int) (P6 : Nat → Prop), v7 = .int .i64 i ∧ Aside0 (laws_FnFrames.l0 kq ps i x6 = some fr) ∧ Aside0 (kq ≤ k) ∧ Aside0 (LR (Kd.int .u8) 5 w' w.heap.size P6 v6 x6) ∧ Aside0 (LS (Kd.slice 5 (Kd.int .u8)) 22 w' w.heap.size PF1 (.slice BF1 ps.length DF1) ps) ∧ Aside0 (∀ k_, PF1 k_ → ¬ P6 k_) ∧ Aside0 (Below w.heap.size w w'))
  case atStart => exact ⟨y0, 0, PF2, rfl, H', ⟨Nat.le_refl _⟩, HF2, HF1, D_F1_F2, HB⟩
  case round =>
    clear H' HB HF1 HF2 D_F1_F2
    obtain ⟨x6, i, P6, rfl, HA, HK1, H6, HF1, D_F1_6, HB⟩ := hrel
    cases gk with
    | zero => exact absurd HA.out (by simp [laws_FnFrames.l0])
    | succ k1 =>
      have H := HA.out
      clear HA
      simp only [laws_FnFrames.l0] at H
      obtain ⟨B6, D6, e_6⟩ := H6.out.val
      subst e_6
      by_cases c1 : i < (ps.length : Int)
      · rw [if_pos c1] at H
        have cb1 : decide (i < (ps.length : Int)) = true := decide_eq_true c1
        by_cases c2 : 0 ≤ i
        · rw [if_pos c2] at H
          have cb2 : decide (0 ≤ i) = true := decide_eq_true c2
          obtain ⟨adx, A3, c3, ex, hx0, hl3, hi3⟩ := at_L2 HF1.out.reads i c2 c1
          cases ex
          obtain ⟨z, hz⟩ : ∃ z, z = rd_L2 ps i := ⟨_, rfl⟩
          rw [← hz] at H hx0 hl3 hi3
          have HIX := Aside0.mk hi3
          have HLX := Aside0.mk hl3
          clear hi3 hl3 hz
          replace c1 := eq_true c1
          replace c2 := eq_true c2
          obtain ⟨⟨t1, t2⟩, e1, H⟩ := Option.bind_eq_some_iff.1 H
          simp only at H
          by_cases c4 : t2 = 0
          · rw [if_pos c4] at H
            subst c4
            by_cases c5 : x6.length + t1.length < 140737488355328
            · rw [if_pos c5] at H
              have LM := Aside0.mk c5
              have EF := Aside0.mk e1
              obtain ⟨y6, hy6⟩ : ∃ y_ : List Int, y_ = x6 ++ t1 := ⟨_, rfl⟩
              rw [← hy6] at H
              have Ny6 := Aside0.mk hy6
              have H' := Aside0.mk H
              clear H hy6 c5 e1
              go_wp2_with (first | ((with_reducible refine gate_callee (f := 27) rfl ?_); refine goesL_ (some 43) rfl rfl Try.func27 (by kernel_rfl) rfl #[.slice A3 z.length c3] rfl (by (try simp only [List.map_toArray, List.map_cons, List.map_nil]); first | done | rfl | (simp only [List.length_drop, List.length_take]; rfl)) ?_; (with_reducible refine (impl_Frame.calls k1 _ _ z t1 0 _ HIX.out HLX.out EF.out).mono ?_); rintro e w2 ⟨vF3, rfl, hrF3, hb⟩; refine ⟨_, rfl, ?_⟩; have hk := kept_below hb; obtain ⟨PF3, hPF3, HLF3⟩ := LR.fresh rfl HB.out hrF3; have HF3 := Aside0.mk HLF3; clear HLF3 hrF3; have D_F1_F3 := Aside0.mk (new_apart HF1.out.lt hPF3); have D_6_F3 := Aside0.mk (new_apart H6.out.lt hPF3); replace HF1 := Aside0.mk (HF1.out.step hk no_S); replace H6 := Aside0.mk (H6.out.step hk no_S); clear hPF3; obtain ⟨BF3, DF3, e_F3⟩ := HF3.out.val; subst e_F3; replace HB := Aside0.mk (below_step HB.out hb); clear hb hk) | ((with_reducible refine gate_builtin (b := .append) (xs := #[.tmp 48, .tmp 49]) rfl ?_); at_builtin; refine LR.append_read (Kd.int .u8) (w0 := w) rfl (.tmp 48) (.tmp 49) 22 5 (.int .u8 0) 1 rfl Try.underlying22 info5 rfl (by decide) (by omega) (.slice B6 x6.length D6) x6 t1 _ _ _ rfl rfl (fun _ _ h_ => h_) H6.out HF3.out.reads HB.out ?aL_2 ?_; (case aL_2 => have := LM.out; omega); intro PF4 v_ w2 HL hb hk hR; have D_F1_F4 := Aside0.mk (apart_app hR HF1.out.lt D_F1_6.out); have D_F3_F4 := Aside0.mk (apart_app hR HF3.out.lt (apart_symm D_6_F3.out)); replace HF1 := Aside0.mk (HF1.out.step hk D_F1_6.out); replace HF3 := Aside0.mk (HF3.out.step hk (apart_symm D_6_F3.out)); rw [← Ny6.out] at HL; have HF4 := Aside0.mk HL; replace HB := Aside0.mk hb; clear hR HL hb hk; clear H6; obtain ⟨BF4, DF4, e_F4⟩ := HF4.out.val; subst e_F4))
              go_roundg k1
              case measure => have := HK1.out; omega
              case rel => exact ⟨y6, wrap64 (i + 1), PF4, rfl, H', ⟨by have := HK1.out; omega⟩, HF4, HF1, ⟨D_F1_F4.out⟩, HB⟩
            · rw [if_neg c5] at H
              exact absurd H (by simp)
          · rw [if_neg c4] at H
            exact absurd H (by simp)
        · rw [if_neg c2] at H
          exact absurd H (by simp)
      · rw [if_neg c1] at H
        have cb1 : decide (i < (ps.length : Int)) = false := decide_eq_false c1
        clear c1
        obtain rfl := Option.some.inj H
        clear H
        go_upto_region 17 with (first | ((with_reducible refine gate_callee (f := 38) rfl ?_); refine goesL_ (some 53) rfl rfl Try.func38 (by kernel_rfl) rfl #[.slice B6 x6.length D6] rfl (by (try simp only [List.map_toArray, List.map_cons, List.map_nil]); first | done | rfl | (simp only [List.length_drop, List.length_take]; rfl)) ?_; (with_reducible refine (impl_Unframe.calls k _ _ x6 ps (x6.length : Int) 0 _ H6.out.reads H6.out.room E3.out).mono ?_); rintro e w2 ⟨vF5, rfl, hrF5, hb⟩; refine ⟨_, rfl, ?_⟩; have hk := kept_below hb; obtain ⟨PF5, hPF5, HLF5⟩ := LS.fresh HB.out hrF5; have HF5 := Aside0.mk HLF5; clear HLF5 hrF5; have D_F1_F5 := Aside0.mk (new_apart HF1.out.lt hPF5); have D_6_F5 := Aside0.mk (new_apart H6.out.lt hPF5); replace HF1 := Aside0.mk (HF1.out.step hk no_S); replace H6 := Aside0.mk (H6.out.step hk no_S); clear hPF5; obtain ⟨BF5, DF5, e_F5⟩ := HF5.out.val; subst e_F5; replace HB := Aside0.mk (below_step HB.out hb); clear hb hk) | ((with_reducible refine gate_dst (N := 68) rfl ?_); (refine gate_guard (by rfl) ?_; dsimp only); refine goesL_ (some 68) rfl rfl Try.func41 (by kernel_rfl) rfl #[.slice BF5 ps.length DF5, .slice BF1 ps.length DF1] rfl (by (try simp only [List.map_toArray, List.map_cons, List.map_nil]); first | done | rfl | (simp only [List.length_drop, List.length_take]; rfl)) ?_; (with_reducible refine (laws_sameLists.calls k _ _ ps _ _ ps true _ HF5.out.reads HF5.out.room HF1.out.reads HF1.out.room E4.out).mono ?_); rintro e w2 ⟨rfl, hq⟩; refine ⟨_, rfl, ?_⟩; have hk := kept_drawn hq; replace HF1 := Aside0.mk (HF1.out.step hk no_S); replace H6 := Aside0.mk (H6.out.step hk no_S); replace HF5 := Aside0.mk (HF5.out.step hk no_S); replace HB := Aside0.mk (below_drawn HB.out hq); clear hk hq) | ((with_reducible refine gate_callee (f := 37) rfl ?_); refine goesL_ (some 75) rfl rfl Try.func37 (by kernel_rfl) rfl #[.slice A1 l1.length c1, .int .i64 0, .int .i64 (wrap64 ((x6.length : Int) + 1))] rfl (by (try simp only [List.map_toArray, List.map_cons, List.map_nil]); first | done | rfl | (simp only [List.length_drop, List.length_take]; rfl)) ?_; (with_reducible refine (laws_at.calls _ _ l1 0 (wrap64 ((x6.length : Int) + 1)) a _ (Kd.C_below HR1.out HB.out) HL1.out E5.out).mono ?_); rintro e w2 ⟨rfl, hq⟩; refine ⟨_, rfl, ?_⟩; have hk := kept_drawn hq; replace HF1 := Aside0.mk (HF1.out.step hk no_S); replace H6 := Aside0.mk (H6.out.step hk no_S); replace HF5 := Aside0.mk (HF5.out.step hk no_S); replace HB := Aside0.mk (below_drawn HB.out hq); clear hk hq) | ((with_reducible refine gate_callee (f := 37) rfl ?_); refine goesL_ (some 83) rfl rfl Try.func37 (by kernel_rfl) rfl #[.slice A1 l1.length c1, .int .i64 1, .int .i64 (wrap64 (wrap64 ((x6.length : Int) - a) + 1))] rfl (by (try simp only [List.map_toArray, List.map_cons, List.map_nil]); first | done | rfl | (simp only [List.length_drop, List.length_take]; rfl)) ?_; (with_reducible refine (laws_at.calls _ _ l1 1 (wrap64 (wrap64 ((x6.length : Int) - a) + 1)) b0 _ (Kd.C_below HR1.out HB.out) HL1.out E6.out).mono ?_); rintro e w2 ⟨rfl, hq⟩; refine ⟨_, rfl, ?_⟩; have hk := kept_drawn hq; replace HF1 := Aside0.mk (HF1.out.step hk no_S); replace H6 := Aside0.mk (H6.out.step hk no_S); replace HF5 := Aside0.mk (HF5.out.step hk no_S); replace HB := Aside0.mk (below_drawn HB.out hq); clear hk hq))
        obtain ⟨i01, hi01, _, hsz1, _⟩ := info_parts info5
        obtain ⟨i02, hi02, _, hsz2, _⟩ := info_parts info22
        obtain ⟨hlc1, hcut1, hC1⟩ := cut_take (d := (Kd.int .u8)) (P := Try.prog) 22 5 .i64 Try.underlying22 hi01 B6 D6 a y1 Nhy1.out H6.out.room Nha0.out (by have := Nhab.out; have := Nhbl.out; omega)
        obtain ⟨AA2, cc2, hlc2, hcut2, hC2⟩ := cut_both (d := (Kd.int .u8)) (P := Try.prog) 22 5 .i64 .i64 Try.underlying22 hi01 hsz1 B6 D6 a b y2 Nhy2.out H6.out.room Nha0.out Nhab.out Nhbl.out
        obtain ⟨AA3, cc3, hlc3, hcut3, hC3⟩ := cut_drop (d := (Kd.int .u8)) (P := Try.prog) 22 5 .i64 Try.underlying22 hi01 hsz1 B6 D6 b y3 Nhy3.out H6.out.room (by have := Nha0.out; have := Nhab.out; omega) Nhbl.out
        obtain ⟨hlc5, hcut5, hC5⟩ := cut_take (d := (Kd.slice 5 (Kd.int .u8))) (P := Try.prog) 51 22 .i64 Try.underlying51 hi02 BF1 DF1 (pp.length : Int) y5 Nhy5.out HF1.out.room (by omega) (by have := Nhpl.out; omega)
        have HLC1 := Aside0.mk hlc1
        have HC1 := Aside0.mk hC1
        have HLC2 := Aside0.mk hlc2
        have HC2 := Aside0.mk hC2
        have HLC3 := Aside0.mk hlc3
        have HC3 := Aside0.mk hC3
        have HLC5 := Aside0.mk hlc5
        have HC5 := Aside0.mk hC5
        clear hlc1 hlc2 hlc3 hlc5 hC1 hC2 hC3 hC5 hi01 hi02 hsz1 hsz2
        obtain ⟨yn, hyn⟩ : ∃ y_ : List Int, y_ = [] := ⟨_, rfl⟩
        have Nyn := Aside0.mk hyn
        have Nhy6 := Aside0.mk (show y4 = [y2, yn, y3] from by rw [hyn]; exact Nhy4.out)
        clear hyn
        refine start_ (n := 20) (S := fun w' => True) (ds := []) #[false, false, false, false, false, false, false, false, false, false, false, false, false, false, false, false, false, false, false, false] (by kernel_rfl) rfl rfl trivial (fun hHeld => ?_)
        refine with_tabW laws_FnFrames.tab17 laws_FnFrames.bits17 (fun HT_ HW_ => ?_)
        generalize hwd_ : World.drew w2 = wd_ at hHeld ⊢
        have hk := kept_drew hwd_
        replace HF1 := Aside0.mk (HF1.out.step hk no_S)
        replace H6 := Aside0.mk (H6.out.step hk no_S)
        replace HF5 := Aside0.mk (HF5.out.step hk no_S)
        replace HB := Aside0.mk (below_drewd HB.out hwd_)
        clear hk hwd_
        refine pure_ (i := 0) (N := some 86) (v := ?_) (a' := ?_) #[true, false, false, false, false, false, false, false, false, false, false, false, false, false, false, false, false, false, false, false] rfl rfl (any_of HT_.out (by kernel_rfl)) (fun _ _ _ h => h) (Or.inl ⟨by rfl, ?_⟩) ?_ ?_
        rotate_left
        · intro w'
          go_simp
          with_reducible rfl
        rotate_left
        · simp only [Act.put, List.setIfInBounds_toArray, List.set_cons_zero, List.set_cons_succ, i64_w, i32_w]
          rfl
        refine pure_ (i := 1) (N := some 87) (v := ?_) (a' := ?_) #[true, true, false, false, false, false, false, false, false, false, false, false, false, false, false, false, false, false, false, false] rfl rfl (any_of HT_.out (by kernel_rfl)) (fun _ _ _ h => h) (Or.inl ⟨by rfl, ?_⟩) ?_ ?_
        rotate_left
        · intro w'
          go_simp
          with_reducible rfl
        rotate_left
        · simp only [Act.put, List.setIfInBounds_toArray, List.set_cons_zero, List.set_cons_succ, i64_w, i32_w]
          rfl
        refine pure_ (i := 2) (N := some 88) (v := ?_) (a' := ?_) #[true, true, true, false, false, false, false, false, false, false, false, false, false, false, false, false, false, false, false, false] rfl rfl (any_of HT_.out (by kernel_rfl)) (fun _ _ _ h => h) (Or.inl ⟨by rfl, ?_⟩) ?_ ?_
        rotate_left
        · intro w'
          go_simp
          with_reducible rfl
        rotate_left
        · simp only [Act.put, List.setIfInBounds_toArray, List.set_cons_zero, List.set_cons_succ, i64_w, i32_w]
          rfl
        refine pure_ (i := 3) (N := some 89) (v := ?_) (a' := ?_) #[true, true, true, true, false, false, false, false, false, false, false, false, false, false, false, false, false, false, false, false] rfl rfl (any_of HT_.out (by kernel_rfl)) (fun _ _ _ h => h) (Or.inl ⟨by rfl, ?_⟩) ?_ ?_
        rotate_left
        · intro w'
          go_simp
          with_reducible rfl
        rotate_left
        · simp only [Act.put, List.setIfInBounds_toArray, List.set_cons_zero, List.set_cons_succ, i64_w, i32_w]
          rfl
        refine pure_ (i := 4) (N := some 90) (v := ?_) (a' := ?_) #[true, true, true, true, true, false, false, false, false, false, false, false, false, false, false, false, false, false, false, false] rfl rfl (any_of HT_.out (by kernel_rfl)) (fun _ _ _ h => h) (Or.inl ⟨by rfl, ?_⟩) ?_ ?_
        rotate_left
        · intro w'
          go_simp
          with_reducible rfl
        rotate_left
        · simp only [Act.put, List.setIfInBounds_toArray, List.set_cons_zero, List.set_cons_succ, i64_w, i32_w]
          rfl
        refine pure_ (i := 5) (N := some 91) (v := ?_) (a' := ?_) #[true, true, true, true, true, true, false, false, false, false, false, false, false, false, false, false, false, false, false, false] rfl rfl (any_of HT_.out (by kernel_rfl)) (fun _ _ _ h => h) (Or.inl ⟨by rfl, ?_⟩) ?_ ?_
        rotate_left
        · intro w'
          go_simp
          with_reducible rfl
        rotate_left
        · simp only [Act.put, List.setIfInBounds_toArray, List.set_cons_zero, List.set_cons_succ, i64_w, i32_w]
          rfl
        refine pure_ (i := 6) (N := some 92) (v := ?_) (a' := ?_) #[true, true, true, true, true, true, true, false, false, false, false, false, false, false, false, false, false, false, false, false] rfl rfl (any_of HT_.out (by kernel_rfl)) (fun _ _ _ h => h) (Or.inl ⟨by rfl, ?_⟩) ?_ ?_
        rotate_left
        · intro w'
          go_simp
          with_reducible rfl
        rotate_left
        · simp only [Act.put, List.setIfInBounds_toArray, List.set_cons_zero, List.set_cons_succ, i64_w, i32_w]
          rfl
        refine pure_ (i := 8) (N := some 94) (v := ?_) (a' := ?_) #[true, true, true, true, true, true, true, false, true, false, false, false, false, false, false, false, false, false, false, false] rfl rfl (any_of HT_.out (by kernel_rfl)) (fun _ _ _ h => h) (Or.inl ⟨by rfl, ?_⟩) ?_ ?_
        rotate_left
        · intro w'
          go_simp
          with_reducible rfl
        rotate_left
        · simp only [Act.put, List.setIfInBounds_toArray, List.set_cons_zero, List.set_cons_succ, i64_w, i32_w]
          rfl
        refine pure_ (i := 9) (N := some 95) (v := ?_) (a' := ?_) #[true, true, true, true, true, true, true, false, true, true, false, false, false, false, false, false, false, false, false, false] rfl rfl (any_of HT_.out (by kernel_rfl)) (fun _ _ _ h => h) (Or.inl ⟨by rfl, ?_⟩) ?_ ?_
        rotate_left
        · intro w'
          go_simp
          with_reducible rfl
        rotate_left
        · simp only [Act.put, List.setIfInBounds_toArray, List.set_cons_zero, List.set_cons_succ, i64_w, i32_w]
          rfl
        refine pure_ (i := 10) (N := some 96) (v := ?_) (a' := ?_) #[true, true, true, true, true, true, true, false, true, true, true, false, false, false, false, false, false, false, false, false] rfl rfl (any_of HT_.out (by kernel_rfl)) (fun _ _ _ h => h) (Or.inl ⟨by rfl, ?_⟩) ?_ ?_
        rotate_left
        · intro w'
          go_simp
          with_reducible rfl
        rotate_left
        · simp only [Act.put, List.setIfInBounds_toArray, List.set_cons_zero, List.set_cons_succ, i64_w, i32_w]
          rfl
        refine one_ (i := 7) (N := some 93) #[true, true, true, true, true, true, true, true, true, true, true, false, false, false, false, false, false, false, false, false] rfl rfl (one_of HT_.out (by kernel_rfl)) (by decide) (fun K hK => ?_)
        refine Kd.R_lit_step (Kd.int .u8) _ 5 ?hg_3 (N := 93) ?hd_3 (xs := ([] : List Int)) (inner := []) (ok := fun _ => True) (okp := fun _ => True) ?hr_3 ?hp_3 (fun _ hk => hk) trivial (Below.refl _ _) (Nat.le_refl _) (by simp) ?_
        (case hd_3 => rfl)
        (case hg_3 => exact (by rfl))
        (case hr_3 => first | (go_simp; done) | (go_simp; rfl))
        (case hp_3 => exact (Reps.none _ _))
        intro vF6 w2 hrF6 hb hg_ hnew_
        clear hg_ hnew_
        rw [← Nyn.out] at hrF6
        have hk := kept_below hb
        obtain ⟨PF6, hPF6, HLF6⟩ := LR.fresh rfl HB.out hrF6
        have HF6 := Aside0.mk HLF6
        clear HLF6 hrF6
        have D_F1_F6 := Aside0.mk (new_apart HF1.out.lt hPF6)
        have D_6_F6 := Aside0.mk (new_apart H6.out.lt hPF6)
        have D_F5_F6 := Aside0.mk (new_apart HF5.out.lt hPF6)
        replace HF1 := Aside0.mk (HF1.out.step hk no_S)
        replace H6 := Aside0.mk (H6.out.step hk no_S)
        replace HF5 := Aside0.mk (HF5.out.step hk no_S)
        clear hPF6
        obtain ⟨BF6, DF6, e_F6⟩ := HF6.out.val
        subst e_F6
        replace HB := Aside0.mk (below_step HB.out hb)
        clear hb hk
        refine hK.out _ _ trivial (fun hHeld => ?_)
        clear hK K
        refine norm_ (a' := ?_) ?_ ?_
        rotate_left
        · show Act.put _ (some 93) _ = _
          simp only [Act.put, List.setIfInBounds_toArray, List.set_cons_zero, List.set_cons_succ, i64_w, i32_w]
          rfl
        refine one_ (i := 11) (N := some 97) #[true, true, true, true, true, true, true, true, true, true, true, true, false, false, false, false, false, false, false, false] rfl rfl (one_of HT_.out (by kernel_rfl)) (by decide) (fun K hK => ?_)
        refine Kd.N_lit_step (Kd.slice 5 (Kd.int .u8)) _ 22 ?hg_4 (N' := 97) ?hd_4 (xs := [y2, yn, y3]) (inner := [.slice AA2 y2.length cc2, .slice BF6 yn.length DF6, .slice AA3 y3.length cc3]) (ok := fun _ => True) (okp := fun _ => True) ?hr_4 ?hp_4 (fun _ hk => hk) trivial (Below.refl _ _) (Nat.le_refl _) (by simp) ?_
        (case hd_4 => rfl)
        (case hg_4 => exact (by rfl))
        (case hr_4 => first | (go_simp; done) | (go_simp; rfl))
        (case hp_4 => (obtain ⟨_, _, he_, _, hF0_⟩ := Kd.FK_slice_open (Kd.FK_of_M (Kd.M_row H6.out.1)); have hF_ := Kd.F_mono (ok' := fun _ => True) hF0_ (fun _ _ => trivial); injection he_ with he_ _; injection he_ with he1_ _ he2_; subst he1_; exact ⟨rfl, fun j p_ hj => by match j with | 0 => (obtain rfl := Option.some.inj hj; exact (Kd.FK_slice_mk HLC2.out (Kd.F_imp hF_ (fun W_ hC_ => HC2.out W_ hC_)))) | 1 => (obtain rfl := Option.some.inj hj; exact Kd.FK_mono (Kd.FK_of_M (Kd.M_row HF6.out.1)) (fun _ _ => trivial)) | 2 => (obtain rfl := Option.some.inj hj; exact (Kd.FK_slice_mk HLC3.out (Kd.F_imp hF_ (fun W_ hC_ => HC3.out W_ hC_)))) | _ + 3 => (simp at hj)⟩))
        intro v4 w2 hr hb hg_ hnew_
        clear hg_ hnew_
        have hk := kept_below hb
        rw [← Nhy6.out] at hr
        obtain ⟨B4, D4, e_4⟩ := Kd.N_slice hr
        subst e_4
        have HC4 := Aside0.mk (Kd.N_reads' hr)
        replace HF1 := Aside0.mk (HF1.out.step hk no_S)
        replace H6 := Aside0.mk (H6.out.step hk no_S)
        replace HF5 := Aside0.mk (HF5.out.step hk no_S)
        replace HF6 := Aside0.mk (HF6.out.step hk no_S)
        replace HB := Aside0.mk (below_step HB.out hb)
        clear hb hk hr
        refine hK.out _ _ trivial (fun hHeld => ?_)
        clear hK K
        refine norm_ (a' := ?_) ?_ ?_
        rotate_left
        · show Act.put _ (some 97) _ = _
          simp only [Act.put, List.setIfInBounds_toArray, List.set_cons_zero, List.set_cons_succ, i64_w, i32_w]
          rfl
        refine one_ (i := 12) (N := some 98) #[true, true, true, true, true, true, true, true, true, true, true, true, true, false, false, false, false, false, false, false] rfl rfl (one_of HT_.out (by kernel_rfl)) (by decide) (fun K hK => ?_)
        refine goes_ Try.func42 (by kernel_rfl) rfl #[.slice B6 y1.length D6, .slice B4 y4.length D4] (by rfl) rfl rfl (by (try simp only [List.map_toArray, List.map_cons, List.map_nil]); first | done | rfl | (simp only [List.length_drop, List.length_take]; rfl)) ?_
        (with_reducible refine (impl_Feed.own k _ _ y1 _ _ y4 ps q 0 _ (HC1.out _ H6.out.reads) HLC1.out HC4.out.2.2 (by have := HC4.out; omega) E7.out).mono ?_)
        rintro e w2 ⟨vF7, vF8, rfl, hrF7, hrF8, hb⟩
        refine ⟨_, rfl, ?_⟩
        have hk := kept_below hb
        obtain ⟨PF7, hPF7, HLF7⟩ := LS.fresh HB.out hrF7
        have HF7 := Aside0.mk HLF7
        clear HLF7 hrF7
        have D_F1_F7 := Aside0.mk (new_apart HF1.out.lt hPF7)
        have D_6_F7 := Aside0.mk (new_apart H6.out.lt hPF7)
        have D_F5_F7 := Aside0.mk (new_apart HF5.out.lt hPF7)
        have D_F6_F7 := Aside0.mk (new_apart HF6.out.lt hPF7)
        obtain ⟨PF8, hPF8, HLF8⟩ := LR.fresh rfl HB.out hrF8
        have HF8 := Aside0.mk HLF8
        clear HLF8 hrF8
        have D_F1_F8 := Aside0.mk (new_apart HF1.out.lt hPF8)
        have D_6_F8 := Aside0.mk (new_apart H6.out.lt hPF8)
        have D_F5_F8 := Aside0.mk (new_apart HF5.out.lt hPF8)
        have D_F6_F8 := Aside0.mk (new_apart HF6.out.lt hPF8)
        have D_F7_F8 := Aside0.mk (show ∀ k_, PF7 k_ → ¬ PF8 k_ from fun k_ h1_ h2_ => by have a1_ := hPF7 k_ h1_; have a2_ := hPF8 k_ h2_; simp_all)
        replace HF1 := Aside0.mk (HF1.out.step hk no_S)
        replace H6 := Aside0.mk (H6.out.step hk no_S)
        replace HF5 := Aside0.mk (HF5.out.step hk no_S)
        replace HF6 := Aside0.mk (HF6.out.step hk no_S)
        clear hPF7
        obtain ⟨BF7, DF7, e_F7⟩ := HF7.out.val
        subst e_F7
        clear hPF8
        obtain ⟨BF8, DF8, e_F8⟩ := HF8.out.val
        subst e_F8
        replace HB := Aside0.mk (below_step HB.out hb)
        clear hb hk
        refine hK.out _ _ trivial (fun hHeld => ?_)
        clear hK K
        refine norm_ (a' := ?_) ?_ ?_
        rotate_left
        · show Act.put _ (some 98) _ = _
          simp only [Act.put, List.setIfInBounds_toArray, List.set_cons_zero, List.set_cons_succ, i64_w, i32_w]
          rfl
        refine pure_ (i := 13) (N := some 85) (v := ?_) (a' := ?_) #[true, true, true, true, true, true, true, true, true, true, true, true, true, true, false, false, false, false, false, false] rfl rfl (any_of HT_.out (by kernel_rfl)) (fun _ _ _ h => h) (Or.inl ⟨by rfl, ?_⟩) ?_ ?_
        rotate_left
        · intro w'
          go_simp
          with_reducible rfl
        rotate_left
        · simp only [Act.put, List.setIfInBounds_toArray, List.set_cons_zero, List.set_cons_succ, i64_w, i32_w]
          rfl
        refine pure_ (i := 14) (N := some 99) (v := ?_) (a' := ?_) #[true, true, true, true, true, true, true, true, true, true, true, true, true, true, true, false, false, false, false, false] rfl rfl (any_of HT_.out (by kernel_rfl)) (fun _ _ _ h => h) (Or.inl ⟨by rfl, ?_⟩) ?_ ?_
        rotate_left
        · intro w'
          go_simp
          with_reducible rfl
        rotate_left
        · simp only [Act.put, List.setIfInBounds_toArray, List.set_cons_zero, List.set_cons_succ, i64_w, i32_w]
          rfl
        refine pure_ (i := 15) (N := some 100) (v := ?_) (a' := ?_) #[true, true, true, true, true, true, true, true, true, true, true, true, true, true, true, true, false, false, false, false] rfl rfl (any_of HT_.out (by kernel_rfl)) (fun _ _ _ h => h) (Or.inl ⟨by rfl, ?_⟩) ?_ ?_
        rotate_left
        · intro w'
          go_simp
          with_reducible rfl
        rotate_left
        · simp only [Act.put, List.setIfInBounds_toArray, List.set_cons_zero, List.set_cons_succ, i64_w, i32_w]
          rfl
        refine pure_ (i := 16) (N := some 101) (v := ?_) (a' := ?_) #[true, true, true, true, true, true, true, true, true, true, true, true, true, true, true, true, true, false, false, false] rfl rfl (any_of HT_.out (by kernel_rfl)) (fun _ _ _ h => h) (Or.inl ⟨by rfl, ?_⟩) ?_ ?_
        rotate_left
        · intro w'
          go_simp
          with_reducible rfl
        rotate_left
        · simp only [Act.put, List.setIfInBounds_toArray, List.set_cons_zero, List.set_cons_succ, i64_w, i32_w]
          rfl
        refine pure_ (i := 17) (N := some 15) (v := ?_) (a' := ?_) #[true, true, true, true, true, true, true, true, true, true, true, true, true, true, true, true, true, true, false, false] rfl rfl (any_of HT_.out (by kernel_rfl)) (fun _ _ _ h => h) (Or.inl ⟨by rfl, ?_⟩) ?_ ?_
        rotate_left
        · intro w'
          go_simp
          with_reducible rfl
        rotate_left
        · simp only [Act.put, List.setIfInBounds_toArray, List.set_cons_zero, List.set_cons_succ, i64_w, i32_w]
          rfl
        refine pure_ (i := 18) (N := some 16) (v := ?_) (a' := ?_) #[true, true, true, true, true, true, true, true, true, true, true, true, true, true, true, true, true, true, true, false] rfl rfl (any_of HT_.out (by kernel_rfl)) (fun _ _ _ h => h) (Or.inl ⟨by rfl, ?_⟩) ?_ ?_
        rotate_left
        · intro w'
          go_simp
          with_reducible rfl
        rotate_left
        · simp only [Act.put, List.setIfInBounds_toArray, List.set_cons_zero, List.set_cons_succ, i64_w, i32_w]
          rfl
        refine pure_ (i := 19) (N := some 17) (v := ?_) (a' := ?_) #[true, true, true, true, true, true, true, true, true, true, true, true, true, true, true, true, true, true, true, true] rfl rfl (any_of HT_.out (by kernel_rfl)) (fun _ _ _ h => h) (Or.inl ⟨by rfl, ?_⟩) ?_ ?_
        rotate_left
        · intro w'
          go_simp
          with_reducible rfl
        rotate_left
        · simp only [Act.put, List.setIfInBounds_toArray, List.set_cons_zero, List.set_cons_succ, i64_w, i32_w]
          rfl
        refine done_ (done_of HT_.out (by kernel_rfl)) ?_
        go_wp2_with (first | ((with_reducible refine gate_callee (f := 38) rfl ?_); refine goesL_ (some 106) rfl rfl Try.func38 (by kernel_rfl) rfl #[.slice B6 y1.length D6] rfl (by (try simp only [List.map_toArray, List.map_cons, List.map_nil]); first | done | rfl | (simp only [List.length_drop, List.length_take]; rfl)) ?_; (with_reducible refine (impl_Unframe.calls k _ _ y1 pp n2 0 _ (HC1.out _ H6.out.reads) HLC1.out E8.out).mono ?_); rintro e w2 ⟨vF9, rfl, hrF9, hb⟩; refine ⟨_, rfl, ?_⟩; have hk := kept_below hb; obtain ⟨PF9, hPF9, HLF9⟩ := LS.fresh HB.out hrF9; have HF9 := Aside0.mk HLF9; clear HLF9 hrF9; have D_F1_F9 := Aside0.mk (new_apart HF1.out.lt hPF9); have D_6_F9 := Aside0.mk (new_apart H6.out.lt hPF9); have D_F5_F9 := Aside0.mk (new_apart HF5.out.lt hPF9); have D_F6_F9 := Aside0.mk (new_apart HF6.out.lt hPF9); have D_F7_F9 := Aside0.mk (new_apart HF7.out.lt hPF9); have D_F8_F9 := Aside0.mk (new_apart HF8.out.lt hPF9); replace HF1 := Aside0.mk (HF1.out.step hk no_S); replace H6 := Aside0.mk (H6.out.step hk no_S); replace HF5 := Aside0.mk (HF5.out.step hk no_S); replace HF6 := Aside0.mk (HF6.out.step hk no_S); replace HF7 := Aside0.mk (HF7.out.step hk no_S); replace HF8 := Aside0.mk (HF8.out.step hk no_S); clear hPF9; obtain ⟨BF9, DF9, e_F9⟩ := HF9.out.val; subst e_F9; replace HB := Aside0.mk (below_step HB.out hb); clear hb hk) | ((with_reducible refine gate_dst (N := 120) rfl ?_); (refine gate_guard (by rfl) ?_; dsimp only); refine goesL_ (some 120) rfl rfl Try.func41 (by kernel_rfl) rfl #[.slice BF7 ps.length DF7, .slice BF1 ps.length DF1] rfl (by (try simp only [List.map_toArray, List.map_cons, List.map_nil]); first | done | rfl | (simp only [List.length_drop, List.length_take]; rfl)) ?_; (with_reducible refine (laws_sameLists.calls k _ _ ps _ _ ps true _ HF7.out.reads HF7.out.room HF1.out.reads HF1.out.room E4.out).mono ?_); rintro e w2 ⟨rfl, hq⟩; refine ⟨_, rfl, ?_⟩; have hk := kept_drawn hq; replace HF1 := Aside0.mk (HF1.out.step hk no_S); replace H6 := Aside0.mk (H6.out.step hk no_S); replace HF5 := Aside0.mk (HF5.out.step hk no_S); replace HF6 := Aside0.mk (HF6.out.step hk no_S); replace HF7 := Aside0.mk (HF7.out.step hk no_S); replace HF8 := Aside0.mk (HF8.out.step hk no_S); replace HF9 := Aside0.mk (HF9.out.step hk no_S); replace HB := Aside0.mk (below_drawn HB.out hq); clear hk hq) | ((with_reducible refine gate_dst (N := 144) rfl ?_); (refine gate_guard (by rfl) ?_; dsimp only); refine goesL_ (some 144) rfl rfl Try.func41 (by kernel_rfl) rfl #[.slice BF9 pp.length DF9, .slice BF1 y5.length DF1] rfl (by (try simp only [List.map_toArray, List.map_cons, List.map_nil]); first | done | rfl | (simp only [List.length_drop, List.length_take]; rfl)) ?_; (with_reducible refine (laws_sameLists.calls k _ _ pp _ _ y5 true _ HF9.out.reads HF9.out.room (HC5.out _ HF1.out.reads) HLC5.out E9.out).mono ?_); rintro e w2 ⟨rfl, hq⟩; refine ⟨_, rfl, ?_⟩; have hk := kept_drawn hq; replace HF1 := Aside0.mk (HF1.out.step hk no_S); replace H6 := Aside0.mk (H6.out.step hk no_S); replace HF5 := Aside0.mk (HF5.out.step hk no_S); replace HF6 := Aside0.mk (HF6.out.step hk no_S); replace HF7 := Aside0.mk (HF7.out.step hk no_S); replace HF8 := Aside0.mk (HF8.out.step hk no_S); replace HF9 := Aside0.mk (HF9.out.step hk no_S); replace HB := Aside0.mk (below_drawn HB.out hq); clear hk hq))
        go_ret
        exact ⟨rfl, HB.out⟩
end Go.Proofs.Ytkiknhljomobpaa.PFnFrames
