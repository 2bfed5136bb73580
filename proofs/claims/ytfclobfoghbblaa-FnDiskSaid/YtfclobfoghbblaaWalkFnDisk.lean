/- The walk of the law FnDisk, by hand. -/
import Derived.Test.YtfclobfoghbblaaPFnDiskx0
import Derived.Test.YtfclobfoghbblaaPFnDiskx1
import Derived.Test.YtfclobfoghbblaaPFnDiskx2
import Derived.Test.YtfclobfoghbblaaPFnDiskx3
import Derived.Test.YtfclobfoghbblaaPFnDiskx4
import Derived.Test.YtfclobfoghbblaaPFnDiskx5
import Derived.Test.YtfclobfoghbblaaPFnDiskx6
import Derived.Test.YtfclobfoghbblaaHandFnDisk
import Derived.Test.YtfclobfoghbblaaHw
import Derived.Test.YtfclobfoghbblaaWGuard
import Derived.Deep.RegionHeld3
import Derived.Deep.Cut
namespace Go.Proofs.Ytfclobfoghbblaa.PFnDisk
open Go.RowKit Go.Proofs.Ytfclobfoghbblaa.Lawful Go.Proofs.YtfclobfoghbblaaW.PrintWords Go.Proofs.YtfclobfoghbblaaW.PrintLast Go.Proofs.YtfclobfoghbblaaW.PrintMore
set_option linter.unusedVariables false
set_option linter.unusedSimpArgs false
def laws_FnDisk.T8 : Bool × List (List Nat × List Nat) := (true, [([], []), ([], []), ([1], [1]), ([], []), ([3, 2], [3]), ([0, 2, 4, 4], [0, 2, 4]), ([5], [5]), ([6], [6]), ([6], [6]), ([], []), ([9, 7, 5, 0, 1, 2, 3, 4, 5, 6, 7, 9], [7, 9]), ([8, 10, 0, 1, 2, 3, 4, 5, 6, 7, 8, 9, 10], [8])])
def laws_FnDisk.B8 : List Nat := [0, 0, 2, 0, 14, 31, 63, 127, 127, 0, 767, 2047]
theorem laws_FnDisk.tab8 : rtab .any (opsOf Try.f7 8) = laws_FnDisk.T8 := by kernel_rfl
theorem laws_FnDisk.bits8 : waitsOk laws_FnDisk.T8.2 laws_FnDisk.B8 = true := by kernel_rfl
def laws_FnDisk.T12 : Bool × List (List Nat × List Nat) := (true, [([], []), ([0], [0]), ([], []), ([2], [2]), ([1, 3], [1, 3]), ([4], [4]), ([5], [5]), ([5], [5]), ([7, 5], [5, 7]), ([6, 8, 5], [5, 6, 8]), ([9, 5], [5, 9]), ([5], [5]), ([11, 5], [5, 11]), ([10, 12, 5], [5, 10, 12]), ([5, 13], [5, 13]), ([14, 5], [14]), ([15], [15]), ([16, 15], [15, 16]), ([15], [15]), ([18, 15], [15, 18]), ([19, 15], [15, 19]), ([17, 20, 15], [15, 17, 20]), ([15, 21], [15, 21]), ([22, 15, 0, 1, 2, 3, 4, 5, 6, 7, 8, 9, 10, 11, 12, 13, 14, 15, 16, 17, 18, 19, 20, 21, 22], [22])])
def laws_FnDisk.B12 : List Nat := [0, 1, 0, 4, 15, 31, 63, 63, 191, 511, 1023, 63, 2111, 8191, 16383, 32767, 65535, 131071, 65535, 327679, 851967, 2097151, 4194303, 8388607]
theorem laws_FnDisk.tab12 : rtab .any (opsOf Try.f7 12) = laws_FnDisk.T12 := by kernel_rfl
theorem laws_FnDisk.bits12 : waitsOk laws_FnDisk.T12.2 laws_FnDisk.B12 = true := by kernel_rfl
set_option maxHeartbeats 16000000 in
set_option maxRecDepth 100000 in
theorem laws_FnDisk.early0 (A0 : Option Addr) (c0 : Nat) (l0 : List Int) (A1 : Option Addr) (c1 : Nat) (l1 : List Int) (w : World) (g0 : decide (1048576 < (l0.length : Int)) = true) :
    Calls Try.prog 7 #[.slice A0 l0.length c0, .slice A1 l1.length c1] w fun e w' => e = .returned (.bool true) ∧ Below w.heap.size w w' := by
  have HB := Aside0.mk (Below.refl w.heap.size w)
  go_enter Try.func7, Try.ntmps7
  go_wp2
  go_ret
  exact ⟨rfl, HB.out⟩
set_option maxHeartbeats 16000000 in
set_option maxRecDepth 100000 in
theorem laws_FnDisk.early1 (A0 : Option Addr) (c0 : Nat) (l0 : List Int) (A1 : Option Addr) (c1 : Nat) (l1 : List Int) (w : World) (g0 : decide (1048576 < (l0.length : Int)) = false) (g1 : decide (1048576 < (l1.length : Int)) = true) :
    Calls Try.prog 7 #[.slice A0 l0.length c0, .slice A1 l1.length c1] w fun e w' => e = .returned (.bool true) ∧ Below w.heap.size w w' := by
  have HB := Aside0.mk (Below.refl w.heap.size w)
  go_enter Try.func7, Try.ntmps7
  go_wp2
  go_ret
  exact ⟨rfl, HB.out⟩
set_option maxHeartbeats 16000000 in
set_option maxRecDepth 100000 in
theorem laws_FnDisk.walk (k : Nat) (A0 : Option Addr) (c0 : Nat) (l0 : List Int) (A1 : Option Addr) (c1 : Nat) (l1 : List Int) (y : List S100) (c s : List Int) (q : List (List Int)) (b d b2 b3 : List Int) (q2 : List (List Int)) (a1 a2 : Int) (w : World) (hr0 : Kd.C (Kd.int .u8) w A0 l0.length l0) (hc0 : l0.length ≤ c0) (hr1 : Kd.C (Kd.int .u8) w A1 l1.length l1) (hc1 : l1.length ≤ c1) (g0 : decide (1048576 < (l0.length : Int)) = false) (g1 : decide (1048576 < (l1.length : Int)) = false) (gs : ((strOfNums s).toList != (strOfNums s).toList) = false) (gq : ((q2.length : Int) != 0) = false) (gl : decide ((b2.length : Int) ≤ (b.length : Int)) = true) (gt : ((strOfNums b3).toList == (strOfNums b2).toList) = true) (gd : decide ((s.length : Int) ≤ (b2.length : Int)) = true) (hb3 : b3 = b.take (b2.length : Int).toNat) (e1 : spec_DiskActsOf.f k l0 = some y) (e2 : impl_DiskRun.f k y = some (c, s, q, 0)) (e3 : spec_DiskRun.f k y = some (c, s, q, 0)) (e4 : laws_sameInts.f k c c = some true) (e5 : laws_sameLists.f k q q = some true) (e6 : impl_DiskBytes.f k s q = some (b, 0)) (e7 : laws_at.f l1 0 5 = some a1) (e8 : laws_at.f l1 1 9 = some a2) (e9 : impl_DiskCrash.f k s q a1 a2 = some (d, q2, 0)) (e10 : impl_DiskBytes.f k d q2 = some (b2, 0)) :
    Calls Try.prog 7 #[.slice A0 l0.length c0, .slice A1 l1.length c1] w fun e w' => e = .returned (.bool true) ∧ Below w.heap.size w w' := by
  have E1 := Aside0.mk e1
  have E2 := Aside0.mk e2
  have E3 := Aside0.mk e3
  have E4 := Aside0.mk e4
  have E5 := Aside0.mk e5
  have E6 := Aside0.mk e6
  have E7 := Aside0.mk e7
  have E8 := Aside0.mk e8
  have E9 := Aside0.mk e9
  have E10 := Aside0.mk e10
  have NB3 := Aside0.mk hb3
  have HR0 := Aside0.mk hr0
  have HR1 := Aside0.mk hr1
  have HL0 := Aside0.mk hc0
  have HL1 := Aside0.mk hc1
  have GT := Aside0.mk gt
  have GLE := Aside0.mk (of_decide_eq_true gl)
  have gl2 : decide (b2.length ≤ b.length) = true := decide_eq_true (by have := of_decide_eq_true gl; omega)
  have gd2 : decide (s.length ≤ b2.length) = true := decide_eq_true (by have := of_decide_eq_true gd; omega)
  clear hb3 hr0 hr1 hc0 hc1 e1 e2 e3 e4 e5 e6 e7 e8 e9 e10
  have HB := Aside0.mk (Below.refl w.heap.size w)
  have hu29 := Try.underlying29
  go_enter Try.func7, Try.ntmps7
  go_upto_region 8 with (first | ((with_reducible refine gate_callee (f := 30) rfl ?_); refine goesL_ (some 27) rfl rfl Try.func30 (by kernel_rfl) rfl #[.slice A0 l0.length c0] rfl (by (try simp only [List.map_toArray, List.map_cons, List.map_nil]); first | done | rfl | (simp only [List.length_drop, List.length_take]; rfl)) ?_; (with_reducible refine (spec_DiskActsOf.calls k _ _ l0 y _ (Kd.C_below HR0.out HB.out) HL0.out E1.out).mono ?_); rintro e w2 ⟨vF1, rfl, hrF1, hb⟩; refine ⟨_, rfl, ?_⟩; have hk := kept_below hb; obtain ⟨PF1, hPF1, HLF1⟩ := LS.fresh HB.out hrF1; have HF1 := Aside0.mk HLF1; clear HLF1 hrF1; clear hPF1; obtain ⟨BF1, DF1, e_F1⟩ := HF1.out.val; subst e_F1; replace HB := Aside0.mk (below_step HB.out hb); clear hb hk) | ((with_reducible refine gate_callee (f := 29) rfl ?_); refine goesL_ (some 28) rfl rfl Try.func29 (by kernel_rfl) rfl #[.slice BF1 y.length DF1] rfl (by (try simp only [List.map_toArray, List.map_cons, List.map_nil]); first | done | rfl | (simp only [List.length_drop, List.length_take]; rfl)) ?_; (with_reducible refine (impl_DiskRun.own k _ _ y c s q 0 _ HF1.out.reads HF1.out.room E2.out).mono ?_); rintro e w2 ⟨vF2, vF3, vF4, rfl, hrF2, hrF3, hrF4, hb⟩; refine ⟨_, rfl, ?_⟩; have hk := kept_below hb; obtain ⟨PF2, hPF2, HLF2⟩ := LR.fresh rfl HB.out hrF2; have HF2 := Aside0.mk HLF2; clear HLF2 hrF2; have D_F1_F2 := Aside0.mk (new_apart HF1.out.lt hPF2); obtain ⟨PF3, hPF3, HLF3⟩ := LR.fresh rfl HB.out hrF3; have HF3 := Aside0.mk HLF3; clear HLF3 hrF3; have D_F1_F3 := Aside0.mk (new_apart HF1.out.lt hPF3); obtain ⟨PF4, hPF4, HLF4⟩ := LS.fresh HB.out hrF4; have HF4 := Aside0.mk HLF4; clear HLF4 hrF4; have D_F1_F4 := Aside0.mk (new_apart HF1.out.lt hPF4); have D_F2_F3 := Aside0.mk (show ∀ k_, PF2 k_ → ¬ PF3 k_ from fun k_ h1_ h2_ => by have a1_ := hPF2 k_ h1_; have a2_ := hPF3 k_ h2_; simp_all); have D_F2_F4 := Aside0.mk (show ∀ k_, PF2 k_ → ¬ PF4 k_ from fun k_ h1_ h2_ => by have a1_ := hPF2 k_ h1_; have a2_ := hPF4 k_ h2_; simp_all); have D_F3_F4 := Aside0.mk (show ∀ k_, PF3 k_ → ¬ PF4 k_ from fun k_ h1_ h2_ => by have a1_ := hPF3 k_ h1_; have a2_ := hPF4 k_ h2_; simp_all); replace HF1 := Aside0.mk (HF1.out.step hk no_S); clear hPF2; obtain ⟨BF2, DF2, e_F2⟩ := HF2.out.val; subst e_F2; clear hPF3; obtain ⟨BF3, DF3, e_F3⟩ := HF3.out.val; subst e_F3; clear hPF4; obtain ⟨BF4, DF4, e_F4⟩ := HF4.out.val; subst e_F4; replace HB := Aside0.mk (below_step HB.out hb); clear hb hk) | ((with_reducible refine gate_dst (N := 6) rfl ?_); refine box_event ?hg_1 (N := 6) ?hd_1 (cs := #[.slice none 0 0, .slice none 0 0]) (t := 29) ?hr_1 ?_; (case hd_1 => rfl); (case hg_1 => rfl); (case hr_1 => first | (go_simp; done) | (go_simp; rfl)); intro gX5 hg w2 hbox hb; have hk := kept_below hb; obtain ⟨PX5, hPX5, HLX5⟩ := LB.fresh hg hbox; have HX5 := Aside0.mk HLX5; clear HLX5; have GEX5 := Aside0.mk (show w.heap.size ≤ gX5 from (by rw [hg]; exact HB.out.size)); have D_F1_X5 := Aside0.mk (new_apart HF1.out.lt hPX5); have D_F2_X5 := Aside0.mk (new_apart HF2.out.lt hPX5); have D_F3_X5 := Aside0.mk (new_apart HF3.out.lt hPX5); have D_F4_X5 := Aside0.mk (new_apart HF4.out.lt hPX5); replace HF1 := Aside0.mk (HF1.out.step hk no_S); replace HF2 := Aside0.mk (HF2.out.step hk no_S); replace HF3 := Aside0.mk (HF3.out.step hk no_S); replace HF4 := Aside0.mk (HF4.out.step hk no_S); replace HB := Aside0.mk (below_step HB.out hb); clear hb hk hbox hg hPX5; (try clear hxX5_0 hfX5_0 hxX5_1 hfX5_1); have hxX5_0 := (HX5.out.cell 0).trans (show _ = some (.slice none 0 0) from rfl); have hfX5_0 := HX5.out.frozen 0; have hxX5_1 := (HX5.out.cell 1).trans (show _ = some (.slice none 0 0) from rfl); have hfX5_1 := HX5.out.frozen 1) | ((with_reducible refine gate_store (t := 29) (p := 6) rfl ?_); refine LB.stored HX5.out HB.out GEX5.out 0 [.slice BF3 s.length DF3, .slice BF4 q.length DF4] rfl (t := 29) (p := 6) rfl rfl ?hr_2 ?_; (case hr_2 => first | (go_simp; done) | (go_simp; rfl)); intro w2 hx hk hb; replace HF1 := Aside0.mk (HF1.out.step hk D_F1_X5.out); replace HF2 := Aside0.mk (HF2.out.step hk D_F2_X5.out); replace HF3 := Aside0.mk (HF3.out.step hk D_F3_X5.out); replace HF4 := Aside0.mk (HF4.out.step hk D_F4_X5.out); replace HB := Aside0.mk hb; replace HX5 := Aside0.mk (show LB w2 PX5 gX5 29 #[.slice BF3 s.length DF3, .slice BF4 q.length DF4] from hx); clear hk hx hb; (try clear hxX5_0 hfX5_0 hxX5_1 hfX5_1); have hxX5_0 := (HX5.out.cell 0).trans (show _ = some (.slice BF3 s.length DF3) from rfl); have hfX5_0 := HX5.out.frozen 0; have hxX5_1 := (HX5.out.cell 1).trans (show _ = some (.slice BF4 q.length DF4) from rfl); have hfX5_1 := HX5.out.frozen 1) | ((with_reducible refine gate_callee (f := 30) rfl ?_); refine goesL_ (some 34) rfl rfl Try.func30 (by kernel_rfl) rfl #[.slice A0 l0.length c0] rfl (by (try simp only [List.map_toArray, List.map_cons, List.map_nil]); first | done | rfl | (simp only [List.length_drop, List.length_take]; rfl)) ?_; (with_reducible refine (spec_DiskActsOf.calls k _ _ l0 y _ (Kd.C_below HR0.out HB.out) HL0.out E1.out).mono ?_); rintro e w2 ⟨vF6, rfl, hrF6, hb⟩; refine ⟨_, rfl, ?_⟩; have hk := kept_below hb; obtain ⟨PF6, hPF6, HLF6⟩ := LS.fresh HB.out hrF6; have HF6 := Aside0.mk HLF6; clear HLF6 hrF6; have D_F1_F6 := Aside0.mk (new_apart HF1.out.lt hPF6); have D_F2_F6 := Aside0.mk (new_apart HF2.out.lt hPF6); have D_F3_F6 := Aside0.mk (new_apart HF3.out.lt hPF6); have D_F4_F6 := Aside0.mk (new_apart HF4.out.lt hPF6); have D_X5_F6 := Aside0.mk (new_apart HX5.out.lt hPF6); replace HF1 := Aside0.mk (HF1.out.step hk no_S); replace HF2 := Aside0.mk (HF2.out.step hk no_S); replace HF3 := Aside0.mk (HF3.out.step hk no_S); replace HF4 := Aside0.mk (HF4.out.step hk no_S); replace HX5 := Aside0.mk (HX5.out.step hk no_S); clear hPF6; obtain ⟨BF6, DF6, e_F6⟩ := HF6.out.val; subst e_F6; replace HB := Aside0.mk (below_step HB.out hb); clear hb hk; (try clear hxX5_0 hfX5_0 hxX5_1 hfX5_1); have hxX5_0 := (HX5.out.cell 0).trans (show _ = some (.slice BF3 s.length DF3) from rfl); have hfX5_0 := HX5.out.frozen 0; have hxX5_1 := (HX5.out.cell 1).trans (show _ = some (.slice BF4 q.length DF4) from rfl); have hfX5_1 := HX5.out.frozen 1) | ((with_reducible refine gate_callee (f := 31) rfl ?_); refine goesL_ (some 35) rfl rfl Try.func31 (by kernel_rfl) rfl #[.slice BF6 y.length DF6] rfl (by (try simp only [List.map_toArray, List.map_cons, List.map_nil]); first | done | rfl | (simp only [List.length_drop, List.length_take]; rfl)) ?_; (with_reducible refine (spec_DiskRun.own k _ _ y c s q 0 _ HF6.out.reads HF6.out.room E3.out).mono ?_); rintro e w2 ⟨vF7, vF8, vF9, rfl, hrF7, hrF8, hrF9, hb⟩; refine ⟨_, rfl, ?_⟩; have hk := kept_below hb; obtain ⟨PF7, hPF7, HLF7⟩ := LR.fresh rfl HB.out hrF7; have HF7 := Aside0.mk HLF7; clear HLF7 hrF7; have D_F1_F7 := Aside0.mk (new_apart HF1.out.lt hPF7); have D_F2_F7 := Aside0.mk (new_apart HF2.out.lt hPF7); have D_F3_F7 := Aside0.mk (new_apart HF3.out.lt hPF7); have D_F4_F7 := Aside0.mk (new_apart HF4.out.lt hPF7); have D_X5_F7 := Aside0.mk (new_apart HX5.out.lt hPF7); have D_F6_F7 := Aside0.mk (new_apart HF6.out.lt hPF7); obtain ⟨PF8, hPF8, HLF8⟩ := LV.fresh HB.out hrF8 (fun _ hk_ => by first | exact hk_ | exact hk_.1); have HF8 := Aside0.mk HLF8; clear HLF8 hrF8; have D_F1_F8 := Aside0.mk (new_apart HF1.out.lt hPF8); have D_F2_F8 := Aside0.mk (new_apart HF2.out.lt hPF8); have D_F3_F8 := Aside0.mk (new_apart HF3.out.lt hPF8); have D_F4_F8 := Aside0.mk (new_apart HF4.out.lt hPF8); have D_X5_F8 := Aside0.mk (new_apart HX5.out.lt hPF8); have D_F6_F8 := Aside0.mk (new_apart HF6.out.lt hPF8); obtain ⟨PF9, hPF9, HLF9⟩ := LV.fresh HB.out hrF9 (fun _ hk_ => by first | exact hk_ | exact hk_.1); have HF9 := Aside0.mk HLF9; clear HLF9 hrF9; have D_F1_F9 := Aside0.mk (new_apart HF1.out.lt hPF9); have D_F2_F9 := Aside0.mk (new_apart HF2.out.lt hPF9); have D_F3_F9 := Aside0.mk (new_apart HF3.out.lt hPF9); have D_F4_F9 := Aside0.mk (new_apart HF4.out.lt hPF9); have D_X5_F9 := Aside0.mk (new_apart HX5.out.lt hPF9); have D_F6_F9 := Aside0.mk (new_apart HF6.out.lt hPF9); replace HF1 := Aside0.mk (HF1.out.step hk no_S); replace HF2 := Aside0.mk (HF2.out.step hk no_S); replace HF3 := Aside0.mk (HF3.out.step hk no_S); replace HF4 := Aside0.mk (HF4.out.step hk no_S); replace HX5 := Aside0.mk (HX5.out.step hk no_S); replace HF6 := Aside0.mk (HF6.out.step hk no_S); clear hPF7; obtain ⟨BF7, DF7, e_F7⟩ := HF7.out.val; subst e_F7; clear hPF8; obtain ⟨BF8, DF8, e_F8⟩ := HF8.out.val; subst e_F8; clear hPF9; obtain ⟨BF9, DF9, e_F9⟩ := HF9.out.val; subst e_F9; replace HB := Aside0.mk (below_step HB.out hb); clear hb hk; (try clear hxX5_0 hfX5_0 hxX5_1 hfX5_1); have hxX5_0 := (HX5.out.cell 0).trans (show _ = some (.slice BF3 s.length DF3) from rfl); have hfX5_0 := HX5.out.frozen 0; have hxX5_1 := (HX5.out.cell 1).trans (show _ = some (.slice BF4 q.length DF4) from rfl); have hfX5_1 := HX5.out.frozen 1) | ((with_reducible refine gate_dst (N := 9) rfl ?_); refine box_event ?hg_3 (N := 9) ?hd_3 (cs := #[.slice none 0 0, .slice none 0 0]) (t := 29) ?hr_3 ?_; (case hd_3 => rfl); (case hg_3 => rfl); (case hr_3 => first | (go_simp; done) | (go_simp; rfl)); intro gX10 hg w2 hbox hb; have hk := kept_below hb; obtain ⟨PX10, hPX10, HLX10⟩ := LB.fresh hg hbox; have HX10 := Aside0.mk HLX10; clear HLX10; have GEX10 := Aside0.mk (show w.heap.size ≤ gX10 from (by rw [hg]; exact HB.out.size)); have D_F1_X10 := Aside0.mk (new_apart HF1.out.lt hPX10); have D_F2_X10 := Aside0.mk (new_apart HF2.out.lt hPX10); have D_F3_X10 := Aside0.mk (new_apart HF3.out.lt hPX10); have D_F4_X10 := Aside0.mk (new_apart HF4.out.lt hPX10); have D_X5_X10 := Aside0.mk (new_apart HX5.out.lt hPX10); have D_F6_X10 := Aside0.mk (new_apart HF6.out.lt hPX10); have D_F7_X10 := Aside0.mk (new_apart HF7.out.lt hPX10); have D_F8_X10 := Aside0.mk (new_apart HF8.out.lt hPX10); have D_F9_X10 := Aside0.mk (new_apart HF9.out.lt hPX10); replace HF1 := Aside0.mk (HF1.out.step hk no_S); replace HF2 := Aside0.mk (HF2.out.step hk no_S); replace HF3 := Aside0.mk (HF3.out.step hk no_S); replace HF4 := Aside0.mk (HF4.out.step hk no_S); replace HX5 := Aside0.mk (HX5.out.step hk no_S); replace HF6 := Aside0.mk (HF6.out.step hk no_S); replace HF7 := Aside0.mk (HF7.out.step hk no_S); replace HF8 := Aside0.mk (HF8.out.step hk no_S); replace HF9 := Aside0.mk (HF9.out.step hk no_S); replace HB := Aside0.mk (below_step HB.out hb); clear hb hk hbox hg hPX10; (try clear hxX5_0 hfX5_0 hxX5_1 hfX5_1); have hxX5_0 := (HX5.out.cell 0).trans (show _ = some (.slice BF3 s.length DF3) from rfl); have hfX5_0 := HX5.out.frozen 0; have hxX5_1 := (HX5.out.cell 1).trans (show _ = some (.slice BF4 q.length DF4) from rfl); have hfX5_1 := HX5.out.frozen 1; (try clear hxX10_0 hfX10_0 hxX10_1 hfX10_1); have hxX10_0 := (HX10.out.cell 0).trans (show _ = some (.slice none 0 0) from rfl); have hfX10_0 := HX10.out.frozen 0; have hxX10_1 := (HX10.out.cell 1).trans (show _ = some (.slice none 0 0) from rfl); have hfX10_1 := HX10.out.frozen 1) | ((with_reducible refine gate_store (t := 29) (p := 9) rfl ?_); refine LB.stored HX10.out HB.out GEX10.out 0 [.slice BF8 s.length DF8, .slice BF9 q.length DF9] rfl (t := 29) (p := 9) rfl rfl ?hr_4 ?_; (case hr_4 => first | (go_simp; done) | (go_simp; rfl)); intro w2 hx hk hb; replace HF1 := Aside0.mk (HF1.out.step hk D_F1_X10.out); replace HF2 := Aside0.mk (HF2.out.step hk D_F2_X10.out); replace HF3 := Aside0.mk (HF3.out.step hk D_F3_X10.out); replace HF4 := Aside0.mk (HF4.out.step hk D_F4_X10.out); replace HX5 := Aside0.mk (HX5.out.step hk D_X5_X10.out); replace HF6 := Aside0.mk (HF6.out.step hk D_F6_X10.out); replace HF7 := Aside0.mk (HF7.out.step hk D_F7_X10.out); replace HF8 := Aside0.mk (HF8.out.step hk D_F8_X10.out); replace HF9 := Aside0.mk (HF9.out.step hk D_F9_X10.out); replace HB := Aside0.mk hb; replace HX10 := Aside0.mk (show LB w2 PX10 gX10 29 #[.slice BF8 s.length DF8, .slice BF9 q.length DF9] from hx); clear hk hx hb; (try clear hxX5_0 hfX5_0 hxX5_1 hfX5_1); have hxX5_0 := (HX5.out.cell 0).trans (show _ = some (.slice BF3 s.length DF3) from rfl); have hfX5_0 := HX5.out.frozen 0; have hxX5_1 := (HX5.out.cell 1).trans (show _ = some (.slice BF4 q.length DF4) from rfl); have hfX5_1 := HX5.out.frozen 1; (try clear hxX10_0 hfX10_0 hxX10_1 hfX10_1); have hxX10_0 := (HX10.out.cell 0).trans (show _ = some (.slice BF8 s.length DF8) from rfl); have hfX10_0 := HX10.out.frozen 0; have hxX10_1 := (HX10.out.cell 1).trans (show _ = some (.slice BF9 q.length DF9) from rfl); have hfX10_1 := HX10.out.frozen 1) | ((with_reducible refine gate_dst (N := 44) rfl ?_); (refine gate_guard (by rfl) ?_; dsimp only); refine goesL_ (some 44) rfl rfl Try.func32 (by kernel_rfl) rfl #[.slice BF2 c.length DF2, .slice BF7 c.length DF7] rfl (by (try simp only [List.map_toArray, List.map_cons, List.map_nil]); first | done | rfl | (simp only [List.length_drop, List.length_take]; rfl)) ?_; (with_reducible refine (laws_sameInts.calls k _ _ c _ _ c true _ HF2.out.reads HF2.out.room HF7.out.reads HF7.out.room E4.out).mono ?_); rintro e w2 ⟨rfl, hq⟩; refine ⟨_, rfl, ?_⟩; have hk := kept_drawn hq; replace HF1 := Aside0.mk (HF1.out.step hk no_S); replace HF2 := Aside0.mk (HF2.out.step hk no_S); replace HF3 := Aside0.mk (HF3.out.step hk no_S); replace HF4 := Aside0.mk (HF4.out.step hk no_S); replace HX5 := Aside0.mk (HX5.out.step hk no_S); replace HF6 := Aside0.mk (HF6.out.step hk no_S); replace HF7 := Aside0.mk (HF7.out.step hk no_S); replace HF8 := Aside0.mk (HF8.out.step hk no_S); replace HF9 := Aside0.mk (HF9.out.step hk no_S); replace HX10 := Aside0.mk (HX10.out.step hk no_S); replace HB := Aside0.mk (below_drawn HB.out hq); clear hk hq; (try clear hxX5_0 hfX5_0 hxX5_1 hfX5_1); have hxX5_0 := (HX5.out.cell 0).trans (show _ = some (.slice BF3 s.length DF3) from rfl); have hfX5_0 := HX5.out.frozen 0; have hxX5_1 := (HX5.out.cell 1).trans (show _ = some (.slice BF4 q.length DF4) from rfl); have hfX5_1 := HX5.out.frozen 1; (try clear hxX10_0 hfX10_0 hxX10_1 hfX10_1); have hxX10_0 := (HX10.out.cell 0).trans (show _ = some (.slice BF8 s.length DF8) from rfl); have hfX10_0 := HX10.out.frozen 0; have hxX10_1 := (HX10.out.cell 1).trans (show _ = some (.slice BF9 q.length DF9) from rfl); have hfX10_1 := HX10.out.frozen 1; have hcv1 := Kd.C_string (P := Try.prog) (c := DF3) Try.underlying22 Try.underlying5 Try.underlying9 HF3.out.reads; have hcv2 := Kd.C_string (P := Try.prog) (c := DF8) Try.underlying22 Try.underlying5 Try.underlying9 HF8.out.reads) | ((with_reducible refine gate_dst (N := 61) rfl ?_); (refine gate_guard (by rfl) ?_; dsimp only); refine goesL_ (some 61) rfl rfl Try.func33 (by kernel_rfl) rfl #[.slice BF4 q.length DF4, .slice BF9 q.length DF9] rfl (by (try simp only [List.map_toArray, List.map_cons, List.map_nil]); first | done | rfl | (simp only [List.length_drop, List.length_take]; rfl)) ?_; (with_reducible refine (laws_sameLists.calls k _ _ q _ _ q true _ HF4.out.reads HF4.out.room HF9.out.reads HF9.out.room E5.out).mono ?_); rintro e w2 ⟨rfl, hq⟩; refine ⟨_, rfl, ?_⟩; have hk := kept_drawn hq; replace HF1 := Aside0.mk (HF1.out.step hk no_S); replace HF2 := Aside0.mk (HF2.out.step hk no_S); replace HF3 := Aside0.mk (HF3.out.step hk no_S); replace HF4 := Aside0.mk (HF4.out.step hk no_S); replace HX5 := Aside0.mk (HX5.out.step hk no_S); replace HF6 := Aside0.mk (HF6.out.step hk no_S); replace HF7 := Aside0.mk (HF7.out.step hk no_S); replace HF8 := Aside0.mk (HF8.out.step hk no_S); replace HF9 := Aside0.mk (HF9.out.step hk no_S); replace HX10 := Aside0.mk (HX10.out.step hk no_S); replace HB := Aside0.mk (below_drawn HB.out hq); clear hk hq; (try clear hxX5_0 hfX5_0 hxX5_1 hfX5_1); have hxX5_0 := (HX5.out.cell 0).trans (show _ = some (.slice BF3 s.length DF3) from rfl); have hfX5_0 := HX5.out.frozen 0; have hxX5_1 := (HX5.out.cell 1).trans (show _ = some (.slice BF4 q.length DF4) from rfl); have hfX5_1 := HX5.out.frozen 1; (try clear hxX10_0 hfX10_0 hxX10_1 hfX10_1); have hxX10_0 := (HX10.out.cell 0).trans (show _ = some (.slice BF8 s.length DF8) from rfl); have hfX10_0 := HX10.out.frozen 0; have hxX10_1 := (HX10.out.cell 1).trans (show _ = some (.slice BF9 q.length DF9) from rfl); have hfX10_1 := HX10.out.frozen 1) | ((with_reducible refine gate_callee (f := 13) rfl ?_); refine goesL_ (some 66) rfl rfl Try.func13 (by kernel_rfl) rfl #[.agg #[.slice BF3 s.length DF3, .slice BF4 q.length DF4]] rfl (by (try simp only [List.map_toArray, List.map_cons, List.map_nil]); first | done | rfl | (simp only [List.length_drop, List.length_take]; rfl)) ?_; (with_reducible refine (impl_DiskBytes.calls k _ _ s _ _ q b 0 _ HF3.out.reads HF3.out.room HF4.out.reads HF4.out.room E6.out).mono ?_); rintro e w2 ⟨vF11, rfl, hrF11, hb⟩; refine ⟨_, rfl, ?_⟩; have hk := kept_below hb; obtain ⟨PF11, hPF11, HLF11⟩ := LR.fresh rfl HB.out hrF11; have HF11 := Aside0.mk HLF11; clear HLF11 hrF11; have D_F1_F11 := Aside0.mk (new_apart HF1.out.lt hPF11); have D_F2_F11 := Aside0.mk (new_apart HF2.out.lt hPF11); have D_F3_F11 := Aside0.mk (new_apart HF3.out.lt hPF11); have D_F4_F11 := Aside0.mk (new_apart HF4.out.lt hPF11); have D_X5_F11 := Aside0.mk (new_apart HX5.out.lt hPF11); have D_F6_F11 := Aside0.mk (new_apart HF6.out.lt hPF11); have D_F7_F11 := Aside0.mk (new_apart HF7.out.lt hPF11); have D_F8_F11 := Aside0.mk (new_apart HF8.out.lt hPF11); have D_F9_F11 := Aside0.mk (new_apart HF9.out.lt hPF11); have D_X10_F11 := Aside0.mk (new_apart HX10.out.lt hPF11); replace HF1 := Aside0.mk (HF1.out.step hk no_S); replace HF2 := Aside0.mk (HF2.out.step hk no_S); replace HF3 := Aside0.mk (HF3.out.step hk no_S); replace HF4 := Aside0.mk (HF4.out.step hk no_S); replace HX5 := Aside0.mk (HX5.out.step hk no_S); replace HF6 := Aside0.mk (HF6.out.step hk no_S); replace HF7 := Aside0.mk (HF7.out.step hk no_S); replace HF8 := Aside0.mk (HF8.out.step hk no_S); replace HF9 := Aside0.mk (HF9.out.step hk no_S); replace HX10 := Aside0.mk (HX10.out.step hk no_S); clear hPF11; obtain ⟨BF11, DF11, e_F11⟩ := HF11.out.val; subst e_F11; replace HB := Aside0.mk (below_step HB.out hb); clear hb hk; (try clear hxX5_0 hfX5_0 hxX5_1 hfX5_1); have hxX5_0 := (HX5.out.cell 0).trans (show _ = some (.slice BF3 s.length DF3) from rfl); have hfX5_0 := HX5.out.frozen 0; have hxX5_1 := (HX5.out.cell 1).trans (show _ = some (.slice BF4 q.length DF4) from rfl); have hfX5_1 := HX5.out.frozen 1; (try clear hxX10_0 hfX10_0 hxX10_1 hfX10_1); have hxX10_0 := (HX10.out.cell 0).trans (show _ = some (.slice BF8 s.length DF8) from rfl); have hfX10_0 := HX10.out.frozen 0; have hxX10_1 := (HX10.out.cell 1).trans (show _ = some (.slice BF9 q.length DF9) from rfl); have hfX10_1 := HX10.out.frozen 1))
  refine start_ (n := 12) (S := fun w' => w'.cell? ⟨gX5, 0, none⟩ = some (.slice BF3 s.length DF3) ∧ w'.cell? ⟨gX5, 1, none⟩ = some (.slice BF4 q.length DF4)) (ds := []) #[false, false, false, false, false, false, false, false, false, false, false, false] (by kernel_rfl) rfl rfl ⟨hxX5_0, hxX5_1⟩ (fun hHeld => ?_)
  refine with_tabW laws_FnDisk.tab8 laws_FnDisk.bits8 (fun HT_ HW_ => ?_)
  generalize hwd_ : World.drew w2 = wd_ at hHeld ⊢
  have hk := kept_drew hwd_
  replace HF1 := Aside0.mk (HF1.out.step hk no_S)
  replace HF2 := Aside0.mk (HF2.out.step hk no_S)
  replace HF3 := Aside0.mk (HF3.out.step hk no_S)
  replace HF4 := Aside0.mk (HF4.out.step hk no_S)
  replace HX5 := Aside0.mk (HX5.out.step hk no_S)
  replace HF6 := Aside0.mk (HF6.out.step hk no_S)
  replace HF7 := Aside0.mk (HF7.out.step hk no_S)
  replace HF8 := Aside0.mk (HF8.out.step hk no_S)
  replace HF9 := Aside0.mk (HF9.out.step hk no_S)
  replace HX10 := Aside0.mk (HX10.out.step hk no_S)
  replace HF11 := Aside0.mk (HF11.out.step hk no_S)
  replace HB := Aside0.mk (below_drewd HB.out hwd_)
  clear hk hwd_
  (try clear hxX5_0 hfX5_0 hxX5_1 hfX5_1)
  have hxX5_0 := (HX5.out.cell 0).trans (show _ = some (.slice BF3 s.length DF3) from rfl)
  have hfX5_0 := HX5.out.frozen 0
  have hxX5_1 := (HX5.out.cell 1).trans (show _ = some (.slice BF4 q.length DF4) from rfl)
  have hfX5_1 := HX5.out.frozen 1
  refine take_ (i := 0) (N := some 70) (v := ?_) (a' := ?_) #[true, false, false, false, false, false, false, false, false, false, false, false] rfl rfl (take_ofW HT_.out HW_.out (by kernel_rfl)) (fun _ _ _ h => h) (Or.inl ⟨by rfl, ?_⟩) hHeld ?_ ?_
  rotate_left
  · rintro w' ⟨s0, s1⟩
    go_simp
    with_reducible rfl
  rotate_left
  · simp only [Act.put, List.setIfInBounds_toArray, List.set_cons_zero, List.set_cons_succ, i64_w, i32_w]
    rfl
  refine pure_ (i := 1) (N := some 71) (v := ?_) (a' := ?_) #[true, true, false, false, false, false, false, false, false, false, false, false] rfl rfl (any_of HT_.out (by kernel_rfl)) (fun _ _ _ h => h) (Or.inl ⟨by rfl, ?_⟩) ?_ ?_
  rotate_left
  · intro w'
    go_simp
    with_reducible rfl
  rotate_left
  · simp only [Act.put, List.setIfInBounds_toArray, List.set_cons_zero, List.set_cons_succ, i64_w, i32_w]
    rfl
  refine pure_ (i := 3) (N := some 73) (v := ?_) (a' := ?_) #[true, true, false, true, false, false, false, false, false, false, false, false] rfl rfl (any_of HT_.out (by kernel_rfl)) (fun _ _ _ h => h) (Or.inl ⟨by rfl, ?_⟩) ?_ ?_
  rotate_left
  · intro w'
    go_simp
    with_reducible rfl
  rotate_left
  · simp only [Act.put, List.setIfInBounds_toArray, List.set_cons_zero, List.set_cons_succ, i64_w, i32_w]
    rfl
  refine two_ (i := 2) (j := 9) (Ni := some 72) (Nj := some 13) #[true, true, true, true, false, false, false, false, false, false, false, false] #[true, true, false, true, false, false, false, false, false, true, false, false] rfl rfl rfl rfl (two_of HT_.out (by kernel_rfl)) (by decide) (by decide) (fun K hK => ?_) (fun K hK => ?_)
  · refine goes_ Try.func34 (by kernel_rfl) rfl #[.slice A1 l1.length c1, .int .i64 0, .int .i64 5] (by rfl) rfl rfl (by (try simp only [List.map_toArray, List.map_cons, List.map_nil]); first | done | rfl | (simp only [List.length_drop, List.length_take]; rfl)) ?_
    (with_reducible refine (laws_at.calls _ _ l1 0 5 a1 _ (Kd.C_below HR1.out HB.out) HL1.out E7.out).mono ?_)
    rintro e w2 ⟨rfl, hq⟩
    refine ⟨_, rfl, ?_⟩
    have hk := kept_drawn hq
    replace HF1 := Aside0.mk (HF1.out.step hk no_S)
    replace HF2 := Aside0.mk (HF2.out.step hk no_S)
    replace HF3 := Aside0.mk (HF3.out.step hk no_S)
    replace HF4 := Aside0.mk (HF4.out.step hk no_S)
    replace HX5 := Aside0.mk (HX5.out.step hk no_S)
    replace HF6 := Aside0.mk (HF6.out.step hk no_S)
    replace HF7 := Aside0.mk (HF7.out.step hk no_S)
    replace HF8 := Aside0.mk (HF8.out.step hk no_S)
    replace HF9 := Aside0.mk (HF9.out.step hk no_S)
    replace HX10 := Aside0.mk (HX10.out.step hk no_S)
    replace HF11 := Aside0.mk (HF11.out.step hk no_S)
    replace HB := Aside0.mk (below_drawn HB.out hq)
    clear hk hq
    (try clear hxX5_0 hfX5_0 hxX5_1 hfX5_1)
    have hxX5_0 := (HX5.out.cell 0).trans (show _ = some (.slice BF3 s.length DF3) from rfl)
    have hfX5_0 := HX5.out.frozen 0
    have hxX5_1 := (HX5.out.cell 1).trans (show _ = some (.slice BF4 q.length DF4) from rfl)
    have hfX5_1 := HX5.out.frozen 1
    refine hK.out _ _ ⟨hxX5_0, hxX5_1⟩ (fun hHeld => ?_)
    clear hK K
    refine norm_ (a' := ?_) ?_ ?_
    rotate_left
    · show Act.put _ (some 72) _ = _
      simp only [Act.put, List.setIfInBounds_toArray, List.set_cons_zero, List.set_cons_succ, i64_w, i32_w]
      rfl
    refine two_ (i := 4) (j := 9) (Ni := some 74) (Nj := some 13) #[true, true, true, true, true, false, false, false, false, false, false, false] #[true, true, true, true, false, false, false, false, false, true, false, false] rfl rfl rfl rfl (two_of HT_.out (by kernel_rfl)) (by decide) (by decide) (fun K hK => ?_) (fun K hK => ?_)
    · refine goes_ Try.func34 (by kernel_rfl) rfl #[.slice A1 l1.length c1, .int .i64 1, .int .i64 9] (by rfl) rfl rfl (by (try simp only [List.map_toArray, List.map_cons, List.map_nil]); first | done | rfl | (simp only [List.length_drop, List.length_take]; rfl)) ?_
      (with_reducible refine (laws_at.calls _ _ l1 1 9 a2 _ (Kd.C_below HR1.out HB.out) HL1.out E8.out).mono ?_)
      rintro e w2 ⟨rfl, hq⟩
      refine ⟨_, rfl, ?_⟩
      have hk := kept_drawn hq
      replace HF1 := Aside0.mk (HF1.out.step hk no_S)
      replace HF2 := Aside0.mk (HF2.out.step hk no_S)
      replace HF3 := Aside0.mk (HF3.out.step hk no_S)
      replace HF4 := Aside0.mk (HF4.out.step hk no_S)
      replace HX5 := Aside0.mk (HX5.out.step hk no_S)
      replace HF6 := Aside0.mk (HF6.out.step hk no_S)
      replace HF7 := Aside0.mk (HF7.out.step hk no_S)
      replace HF8 := Aside0.mk (HF8.out.step hk no_S)
      replace HF9 := Aside0.mk (HF9.out.step hk no_S)
      replace HX10 := Aside0.mk (HX10.out.step hk no_S)
      replace HF11 := Aside0.mk (HF11.out.step hk no_S)
      replace HB := Aside0.mk (below_drawn HB.out hq)
      clear hk hq
      (try clear hxX5_0 hfX5_0 hxX5_1 hfX5_1)
      have hxX5_0 := (HX5.out.cell 0).trans (show _ = some (.slice BF3 s.length DF3) from rfl)
      have hfX5_0 := HX5.out.frozen 0
      have hxX5_1 := (HX5.out.cell 1).trans (show _ = some (.slice BF4 q.length DF4) from rfl)
      have hfX5_1 := HX5.out.frozen 1
      refine hK.out _ _ ⟨hxX5_0, hxX5_1⟩ (fun hHeld => ?_)
      clear hK K
      refine norm_ (a' := ?_) ?_ ?_
      rotate_left
      · show Act.put _ (some 74) _ = _
        simp only [Act.put, List.setIfInBounds_toArray, List.set_cons_zero, List.set_cons_succ, i64_w, i32_w]
        rfl
      refine two_ (i := 5) (j := 9) (Ni := some 75) (Nj := some 13) #[true, true, true, true, true, true, false, false, false, false, false, false] #[true, true, true, true, true, false, false, false, false, true, false, false] rfl rfl rfl rfl (two_of HT_.out (by kernel_rfl)) (by decide) (by decide) (fun K hK => ?_) (fun K hK => ?_)
      · refine goes_ Try.func27 (by kernel_rfl) rfl #[.agg #[.slice BF3 s.length DF3, .slice BF4 q.length DF4], .int .i64 a1, .int .i64 a2] (by rfl) rfl rfl (by (try simp only [List.map_toArray, List.map_cons, List.map_nil]); first | done | rfl | (simp only [List.length_drop, List.length_take]; rfl)) ?_
        (with_reducible refine (impl_DiskCrash.calls k _ _ s _ _ q a1 a2 d q2 0 _ HF3.out.reads HF3.out.room HF4.out.reads HF4.out.room E9.out).mono ?_)
        rintro e w2 ⟨vF12, vF13, rfl, hrF12, hrF13, hb⟩
        refine ⟨_, rfl, ?_⟩
        have hk := kept_below hb
        obtain ⟨PF12, hPF12, HLF12⟩ := LR.fresh rfl HB.out hrF12
        have HF12 := Aside0.mk HLF12
        clear HLF12 hrF12
        have D_F1_F12 := Aside0.mk (new_apart HF1.out.lt hPF12)
        have D_F2_F12 := Aside0.mk (new_apart HF2.out.lt hPF12)
        have D_F3_F12 := Aside0.mk (new_apart HF3.out.lt hPF12)
        have D_F4_F12 := Aside0.mk (new_apart HF4.out.lt hPF12)
        have D_X5_F12 := Aside0.mk (new_apart HX5.out.lt hPF12)
        have D_F6_F12 := Aside0.mk (new_apart HF6.out.lt hPF12)
        have D_F7_F12 := Aside0.mk (new_apart HF7.out.lt hPF12)
        have D_F8_F12 := Aside0.mk (new_apart HF8.out.lt hPF12)
        have D_F9_F12 := Aside0.mk (new_apart HF9.out.lt hPF12)
        have D_X10_F12 := Aside0.mk (new_apart HX10.out.lt hPF12)
        have D_F11_F12 := Aside0.mk (new_apart HF11.out.lt hPF12)
        obtain ⟨PF13, hPF13, HLF13⟩ := LS.fresh HB.out hrF13
        have HF13 := Aside0.mk HLF13
        clear HLF13 hrF13
        have D_F1_F13 := Aside0.mk (new_apart HF1.out.lt hPF13)
        have D_F2_F13 := Aside0.mk (new_apart HF2.out.lt hPF13)
        have D_F3_F13 := Aside0.mk (new_apart HF3.out.lt hPF13)
        have D_F4_F13 := Aside0.mk (new_apart HF4.out.lt hPF13)
        have D_X5_F13 := Aside0.mk (new_apart HX5.out.lt hPF13)
        have D_F6_F13 := Aside0.mk (new_apart HF6.out.lt hPF13)
        have D_F7_F13 := Aside0.mk (new_apart HF7.out.lt hPF13)
        have D_F8_F13 := Aside0.mk (new_apart HF8.out.lt hPF13)
        have D_F9_F13 := Aside0.mk (new_apart HF9.out.lt hPF13)
        have D_X10_F13 := Aside0.mk (new_apart HX10.out.lt hPF13)
        have D_F11_F13 := Aside0.mk (new_apart HF11.out.lt hPF13)
        have D_F12_F13 := Aside0.mk (show ∀ k_, PF12 k_ → ¬ PF13 k_ from fun k_ h1_ h2_ => by have a1_ := hPF12 k_ h1_; have a2_ := hPF13 k_ h2_; simp_all)
        replace HF1 := Aside0.mk (HF1.out.step hk no_S)
        replace HF2 := Aside0.mk (HF2.out.step hk no_S)
        replace HF3 := Aside0.mk (HF3.out.step hk no_S)
        replace HF4 := Aside0.mk (HF4.out.step hk no_S)
        replace HX5 := Aside0.mk (HX5.out.step hk no_S)
        replace HF6 := Aside0.mk (HF6.out.step hk no_S)
        replace HF7 := Aside0.mk (HF7.out.step hk no_S)
        replace HF8 := Aside0.mk (HF8.out.step hk no_S)
        replace HF9 := Aside0.mk (HF9.out.step hk no_S)
        replace HX10 := Aside0.mk (HX10.out.step hk no_S)
        replace HF11 := Aside0.mk (HF11.out.step hk no_S)
        clear hPF12
        obtain ⟨BF12, DF12, e_F12⟩ := HF12.out.val
        subst e_F12
        clear hPF13
        obtain ⟨BF13, DF13, e_F13⟩ := HF13.out.val
        subst e_F13
        replace HB := Aside0.mk (below_step HB.out hb)
        clear hb hk
        (try clear hxX5_0 hfX5_0 hxX5_1 hfX5_1)
        have hxX5_0 := (HX5.out.cell 0).trans (show _ = some (.slice BF3 s.length DF3) from rfl)
        have hfX5_0 := HX5.out.frozen 0
        have hxX5_1 := (HX5.out.cell 1).trans (show _ = some (.slice BF4 q.length DF4) from rfl)
        have hfX5_1 := HX5.out.frozen 1
        refine hK.out _ _ ⟨hxX5_0, hxX5_1⟩ (fun hHeld => ?_)
        clear hK K
        refine norm_ (a' := ?_) ?_ ?_
        rotate_left
        · show Act.put _ (some 75) _ = _
          simp only [Act.put, List.setIfInBounds_toArray, List.set_cons_zero, List.set_cons_succ, i64_w, i32_w]
          rfl
        refine pure_ (i := 6) (N := some 69) (v := ?_) (a' := ?_) #[true, true, true, true, true, true, true, false, false, false, false, false] rfl rfl (any_of HT_.out (by kernel_rfl)) (fun _ _ _ h => h) (Or.inl ⟨by rfl, ?_⟩) ?_ ?_
        rotate_left
        · intro w'
          go_simp
          with_reducible rfl
        rotate_left
        · simp only [Act.put, List.setIfInBounds_toArray, List.set_cons_zero, List.set_cons_succ, i64_w, i32_w]
          rfl
        refine pure_ (i := 7) (N := some 76) (v := ?_) (a' := ?_) #[true, true, true, true, true, true, true, true, false, false, false, false] rfl rfl (any_of HT_.out (by kernel_rfl)) (fun _ _ _ h => h) (Or.inl ⟨by rfl, ?_⟩) ?_ ?_
        rotate_left
        · intro w'
          go_simp
          with_reducible rfl
        rotate_left
        · simp only [Act.put, List.setIfInBounds_toArray, List.set_cons_zero, List.set_cons_succ, i64_w, i32_w]
          rfl
        refine pure_ (i := 8) (N := some 77) (v := ?_) (a' := ?_) #[true, true, true, true, true, true, true, true, true, false, false, false] rfl rfl (any_of HT_.out (by kernel_rfl)) (fun _ _ _ h => h) (Or.inl ⟨by rfl, ?_⟩) ?_ ?_
        rotate_left
        · intro w'
          go_simp
          with_reducible rfl
        rotate_left
        · simp only [Act.put, List.setIfInBounds_toArray, List.set_cons_zero, List.set_cons_succ, i64_w, i32_w]
          rfl
        refine one_ (i := 9) (N := some 13) #[true, true, true, true, true, true, true, true, true, true, false, false] rfl rfl (one_of HT_.out (by kernel_rfl)) (by decide) (fun K hK => ?_)
        refine box_step ?hg_5 (N := 13) ?hd_5 (cs := #[.slice none 0 0, .slice none 0 0]) (t := 29) ?hr_5 ?_
        (case hd_5 => rfl)
        (case hg_5 => exact (by rfl))
        (case hr_5 => first | (go_simp; done) | (go_simp; rfl))
        intro gX14 hg w2 hbox hb
        have hk := kept_below hb
        obtain ⟨PX14, hPX14, HLX14⟩ := LB.fresh hg hbox
        have HX14 := Aside0.mk HLX14
        clear HLX14
        have GEX14 := Aside0.mk (show w.heap.size ≤ gX14 from (by rw [hg]; exact HB.out.size))
        have D_F1_X14 := Aside0.mk (new_apart HF1.out.lt hPX14)
        have D_F2_X14 := Aside0.mk (new_apart HF2.out.lt hPX14)
        have D_F3_X14 := Aside0.mk (new_apart HF3.out.lt hPX14)
        have D_F4_X14 := Aside0.mk (new_apart HF4.out.lt hPX14)
        have D_X5_X14 := Aside0.mk (new_apart HX5.out.lt hPX14)
        have D_F6_X14 := Aside0.mk (new_apart HF6.out.lt hPX14)
        have D_F7_X14 := Aside0.mk (new_apart HF7.out.lt hPX14)
        have D_F8_X14 := Aside0.mk (new_apart HF8.out.lt hPX14)
        have D_F9_X14 := Aside0.mk (new_apart HF9.out.lt hPX14)
        have D_X10_X14 := Aside0.mk (new_apart HX10.out.lt hPX14)
        have D_F11_X14 := Aside0.mk (new_apart HF11.out.lt hPX14)
        have D_F12_X14 := Aside0.mk (new_apart HF12.out.lt hPX14)
        have D_F13_X14 := Aside0.mk (new_apart HF13.out.lt hPX14)
        replace HF1 := Aside0.mk (HF1.out.step hk no_S)
        replace HF2 := Aside0.mk (HF2.out.step hk no_S)
        replace HF3 := Aside0.mk (HF3.out.step hk no_S)
        replace HF4 := Aside0.mk (HF4.out.step hk no_S)
        replace HX5 := Aside0.mk (HX5.out.step hk no_S)
        replace HF6 := Aside0.mk (HF6.out.step hk no_S)
        replace HF7 := Aside0.mk (HF7.out.step hk no_S)
        replace HF8 := Aside0.mk (HF8.out.step hk no_S)
        replace HF9 := Aside0.mk (HF9.out.step hk no_S)
        replace HX10 := Aside0.mk (HX10.out.step hk no_S)
        replace HF11 := Aside0.mk (HF11.out.step hk no_S)
        replace HF12 := Aside0.mk (HF12.out.step hk no_S)
        replace HF13 := Aside0.mk (HF13.out.step hk no_S)
        replace HB := Aside0.mk (below_step HB.out hb)
        clear hb hk hbox hg hPX14
        (try clear hxX5_0 hfX5_0 hxX5_1 hfX5_1)
        have hxX5_0 := (HX5.out.cell 0).trans (show _ = some (.slice BF3 s.length DF3) from rfl)
        have hfX5_0 := HX5.out.frozen 0
        have hxX5_1 := (HX5.out.cell 1).trans (show _ = some (.slice BF4 q.length DF4) from rfl)
        have hfX5_1 := HX5.out.frozen 1
        (try clear hxX14_0 hfX14_0 hxX14_1 hfX14_1)
        have hxX14_0 := (HX14.out.cell 0).trans (show _ = some (.slice none 0 0) from rfl)
        have hfX14_0 := HX14.out.frozen 0
        have hxX14_1 := (HX14.out.cell 1).trans (show _ = some (.slice none 0 0) from rfl)
        have hfX14_1 := HX14.out.frozen 1
        refine hK.out _ _ ⟨hxX5_0, hxX5_1⟩ (fun hHeld => ?_)
        clear hK K
        refine norm_ (a' := ?_) ?_ ?_
        rotate_left
        · show Act.put _ (some 13) _ = _
          simp only [Act.put, List.setIfInBounds_toArray, List.set_cons_zero, List.set_cons_succ, i64_w, i32_w]
          rfl
        refine one_ (i := 10) (N := none) #[true, true, true, true, true, true, true, true, true, true, true, false] rfl rfl (one_of HT_.out (by kernel_rfl)) (by decide) (fun K hK => ?_)
        refine LB.stored_step HX14.out HB.out GEX14.out 0 [.slice BF12 d.length DF12, .slice BF13 q2.length DF13] (by rfl) rfl ?hr_6 ?_
        (case hr_6 => first | (go_simp; done) | (go_simp; rfl))
        intro w2 hx hk hb
        replace HF1 := Aside0.mk (HF1.out.step hk D_F1_X14.out)
        replace HF2 := Aside0.mk (HF2.out.step hk D_F2_X14.out)
        replace HF3 := Aside0.mk (HF3.out.step hk D_F3_X14.out)
        replace HF4 := Aside0.mk (HF4.out.step hk D_F4_X14.out)
        replace HX5 := Aside0.mk (HX5.out.step hk D_X5_X14.out)
        replace HF6 := Aside0.mk (HF6.out.step hk D_F6_X14.out)
        replace HF7 := Aside0.mk (HF7.out.step hk D_F7_X14.out)
        replace HF8 := Aside0.mk (HF8.out.step hk D_F8_X14.out)
        replace HF9 := Aside0.mk (HF9.out.step hk D_F9_X14.out)
        replace HX10 := Aside0.mk (HX10.out.step hk D_X10_X14.out)
        replace HF11 := Aside0.mk (HF11.out.step hk D_F11_X14.out)
        replace HF12 := Aside0.mk (HF12.out.step hk D_F12_X14.out)
        replace HF13 := Aside0.mk (HF13.out.step hk D_F13_X14.out)
        replace HB := Aside0.mk hb
        replace HX14 := Aside0.mk (show LB w2 PX14 gX14 29 #[.slice BF12 d.length DF12, .slice BF13 q2.length DF13] from hx)
        clear hk hx hb
        (try clear hxX5_0 hfX5_0 hxX5_1 hfX5_1)
        have hxX5_0 := (HX5.out.cell 0).trans (show _ = some (.slice BF3 s.length DF3) from rfl)
        have hfX5_0 := HX5.out.frozen 0
        have hxX5_1 := (HX5.out.cell 1).trans (show _ = some (.slice BF4 q.length DF4) from rfl)
        have hfX5_1 := HX5.out.frozen 1
        (try clear hxX14_0 hfX14_0 hxX14_1 hfX14_1)
        have hxX14_0 := (HX14.out.cell 0).trans (show _ = some (.slice BF12 d.length DF12) from rfl)
        have hfX14_0 := HX14.out.frozen 0
        have hxX14_1 := (HX14.out.cell 1).trans (show _ = some (.slice BF13 q2.length DF13) from rfl)
        have hfX14_1 := HX14.out.frozen 1
        refine hK.out _ _ ⟨hxX5_0, hxX5_1⟩ (fun hHeld => ?_)
        clear hK K
        refine pure_ (i := 11) (N := some 14) (v := ?_) (a' := ?_) #[true, true, true, true, true, true, true, true, true, true, true, true] rfl rfl (any_of HT_.out (by kernel_rfl)) (fun _ _ _ h => h) (Or.inl ⟨by rfl, ?_⟩) ?_ ?_
        rotate_left
        · intro w'
          go_simp
          with_reducible rfl
        rotate_left
        · simp only [Act.put, List.setIfInBounds_toArray, List.set_cons_zero, List.set_cons_succ, i64_w, i32_w]
          rfl
        refine done_ (done_of HT_.out (by kernel_rfl)) ?_
        go_upto_region 12 with (first | ((with_reducible refine gate_callee (f := 13) rfl ?_); refine goesL_ (some 80) rfl rfl Try.func13 (by kernel_rfl) rfl #[.agg #[.slice BF12 d.length DF12, .slice BF13 q2.length DF13]] rfl (by (try simp only [List.map_toArray, List.map_cons, List.map_nil]); first | done | rfl | (simp only [List.length_drop, List.length_take]; rfl)) ?_; (with_reducible refine (impl_DiskBytes.calls k _ _ d _ _ q2 b2 0 _ HF12.out.reads HF12.out.room HF13.out.reads HF13.out.room E10.out).mono ?_); rintro e w2 ⟨vF15, rfl, hrF15, hb⟩; refine ⟨_, rfl, ?_⟩; have hk := kept_below hb; obtain ⟨PF15, hPF15, HLF15⟩ := LR.fresh rfl HB.out hrF15; have HF15 := Aside0.mk HLF15; clear HLF15 hrF15; have D_F1_F15 := Aside0.mk (new_apart HF1.out.lt hPF15); have D_F2_F15 := Aside0.mk (new_apart HF2.out.lt hPF15); have D_F3_F15 := Aside0.mk (new_apart HF3.out.lt hPF15); have D_F4_F15 := Aside0.mk (new_apart HF4.out.lt hPF15); have D_X5_F15 := Aside0.mk (new_apart HX5.out.lt hPF15); have D_F6_F15 := Aside0.mk (new_apart HF6.out.lt hPF15); have D_F7_F15 := Aside0.mk (new_apart HF7.out.lt hPF15); have D_F8_F15 := Aside0.mk (new_apart HF8.out.lt hPF15); have D_F9_F15 := Aside0.mk (new_apart HF9.out.lt hPF15); have D_X10_F15 := Aside0.mk (new_apart HX10.out.lt hPF15); have D_F11_F15 := Aside0.mk (new_apart HF11.out.lt hPF15); have D_F12_F15 := Aside0.mk (new_apart HF12.out.lt hPF15); have D_F13_F15 := Aside0.mk (new_apart HF13.out.lt hPF15); have D_X14_F15 := Aside0.mk (new_apart HX14.out.lt hPF15); replace HF1 := Aside0.mk (HF1.out.step hk no_S); replace HF2 := Aside0.mk (HF2.out.step hk no_S); replace HF3 := Aside0.mk (HF3.out.step hk no_S); replace HF4 := Aside0.mk (HF4.out.step hk no_S); replace HX5 := Aside0.mk (HX5.out.step hk no_S); replace HF6 := Aside0.mk (HF6.out.step hk no_S); replace HF7 := Aside0.mk (HF7.out.step hk no_S); replace HF8 := Aside0.mk (HF8.out.step hk no_S); replace HF9 := Aside0.mk (HF9.out.step hk no_S); replace HX10 := Aside0.mk (HX10.out.step hk no_S); replace HF11 := Aside0.mk (HF11.out.step hk no_S); replace HF12 := Aside0.mk (HF12.out.step hk no_S); replace HF13 := Aside0.mk (HF13.out.step hk no_S); replace HX14 := Aside0.mk (HX14.out.step hk no_S); clear hPF15; obtain ⟨BF15, DF15, e_F15⟩ := HF15.out.val; subst e_F15; replace HB := Aside0.mk (below_step HB.out hb); clear hb hk; (try clear hxX5_0 hfX5_0 hxX5_1 hfX5_1); have hxX5_0 := (HX5.out.cell 0).trans (show _ = some (.slice BF3 s.length DF3) from rfl); have hfX5_0 := HX5.out.frozen 0; have hxX5_1 := (HX5.out.cell 1).trans (show _ = some (.slice BF4 q.length DF4) from rfl); have hfX5_1 := HX5.out.frozen 1; (try clear hxX14_0 hfX14_0 hxX14_1 hfX14_1); have hxX14_0 := (HX14.out.cell 0).trans (show _ = some (.slice BF12 d.length DF12) from rfl); have hfX14_0 := HX14.out.frozen 0; have hxX14_1 := (HX14.out.cell 1).trans (show _ = some (.slice BF13 q2.length DF13) from rfl); have hfX14_1 := HX14.out.frozen 1))
        obtain ⟨i01, hi01, _, hsz1, _⟩ := info_parts info5
        obtain ⟨hlc1, hcut1, hC1⟩ := cut_take (d := (Kd.int .u8)) (P := Try.prog) 22 5 .i64 Try.underlying22 hi01 BF11 DF11 (b2.length : Int) b3 NB3.out HF11.out.room (by omega) GLE.out
        have hcv3 := fun m_ : Nat => Kd.C_string (P := Try.prog) (w := w2.drewN m_) (A := BF11) (c := DF11) Try.underlying22 Try.underlying5 Try.underlying9 (Kd.C_drewN (hC1 _ HF11.out.reads) m_)
        have hcv4 := fun m_ : Nat => Kd.C_string (P := Try.prog) (w := w2.drewN m_) (A := BF15) (c := DF15) Try.underlying22 Try.underlying5 Try.underlying9 (Kd.C_drewN HF15.out.reads m_)
        clear hlc1 hC1 hi01 hsz1
        refine start_ (n := 24) (S := fun w' => w'.cell? ⟨gX5, 0, none⟩ = some (.slice BF3 s.length DF3) ∧ (convert 22 9 (.slice BF11 b3.length DF11)).run Try.prog w' = .ok (.string (strOfNums b3)) w' ∧ (convert 22 9 (.slice BF15 b2.length DF15)).run Try.prog w' = .ok (.string (strOfNums b2)) w') (ds := []) #[false, false, false, false, false, false, false, false, false, false, false, false, false, false, false, false, false, false, false, false, false, false, false, false] (by kernel_rfl) rfl rfl ⟨hxX5_0, hcv3 1, hcv4 1⟩ (fun hHeld => ?_)
        refine with_tabW laws_FnDisk.tab12 laws_FnDisk.bits12 (fun HT_ HW_ => ?_)
        generalize hwd_ : World.drew w2 = wd_ at hHeld ⊢
        have hk := kept_drew hwd_
        replace HF1 := Aside0.mk (HF1.out.step hk no_S)
        replace HF2 := Aside0.mk (HF2.out.step hk no_S)
        replace HF3 := Aside0.mk (HF3.out.step hk no_S)
        replace HF4 := Aside0.mk (HF4.out.step hk no_S)
        replace HX5 := Aside0.mk (HX5.out.step hk no_S)
        replace HF6 := Aside0.mk (HF6.out.step hk no_S)
        replace HF7 := Aside0.mk (HF7.out.step hk no_S)
        replace HF8 := Aside0.mk (HF8.out.step hk no_S)
        replace HF9 := Aside0.mk (HF9.out.step hk no_S)
        replace HX10 := Aside0.mk (HX10.out.step hk no_S)
        replace HF11 := Aside0.mk (HF11.out.step hk no_S)
        replace HF12 := Aside0.mk (HF12.out.step hk no_S)
        replace HF13 := Aside0.mk (HF13.out.step hk no_S)
        replace HX14 := Aside0.mk (HX14.out.step hk no_S)
        replace HF15 := Aside0.mk (HF15.out.step hk no_S)
        replace HB := Aside0.mk (below_drewd HB.out hwd_)
        clear hk hwd_
        (try clear hxX5_0 hfX5_0 hxX5_1 hfX5_1)
        have hxX5_0 := (HX5.out.cell 0).trans (show _ = some (.slice BF3 s.length DF3) from rfl)
        have hfX5_0 := HX5.out.frozen 0
        have hxX5_1 := (HX5.out.cell 1).trans (show _ = some (.slice BF4 q.length DF4) from rfl)
        have hfX5_1 := HX5.out.frozen 1
        (try clear hxX14_0 hfX14_0 hxX14_1 hfX14_1)
        have hxX14_0 := (HX14.out.cell 0).trans (show _ = some (.slice BF12 d.length DF12) from rfl)
        have hfX14_0 := HX14.out.frozen 0
        have hxX14_1 := (HX14.out.cell 1).trans (show _ = some (.slice BF13 q2.length DF13) from rfl)
        have hfX14_1 := HX14.out.frozen 1
        refine pure_ (i := 0) (N := some 99) (v := ?_) (a' := ?_) #[true, false, false, false, false, false, false, false, false, false, false, false, false, false, false, false, false, false, false, false, false, false, false, false] rfl rfl (any_of HT_.out (by kernel_rfl)) (fun _ _ _ h => h) (Or.inl ⟨by rfl, ?_⟩) ?_ ?_
        rotate_left
        · intro w'
          go_simp
          with_reducible rfl
        rotate_left
        · simp only [Act.put, List.setIfInBounds_toArray, List.set_cons_zero, List.set_cons_succ, i64_w, i32_w]
          rfl
        refine pure_ (i := 1) (N := some 100) (v := ?_) (a' := ?_) #[true, true, false, false, false, false, false, false, false, false, false, false, false, false, false, false, false, false, false, false, false, false, false, false] rfl rfl (any_of HT_.out (by kernel_rfl)) (fun _ _ _ h => h) (Or.inl ⟨by rfl, ?_⟩) ?_ ?_
        rotate_left
        · intro w'
          go_simp
          with_reducible rfl
        rotate_left
        · simp only [Act.put, List.setIfInBounds_toArray, List.set_cons_zero, List.set_cons_succ, i64_w, i32_w]
          rfl
        refine pure_ (i := 2) (N := some 101) (v := ?_) (a' := ?_) #[true, true, true, false, false, false, false, false, false, false, false, false, false, false, false, false, false, false, false, false, false, false, false, false] rfl rfl (any_of HT_.out (by kernel_rfl)) (fun _ _ _ h => h) (Or.inl ⟨by rfl, ?_⟩) ?_ ?_
        rotate_left
        · intro w'
          go_simp
          with_reducible rfl
        rotate_left
        · simp only [Act.put, List.setIfInBounds_toArray, List.set_cons_zero, List.set_cons_succ, i64_w, i32_w]
          rfl
        refine pure_ (i := 3) (N := some 102) (v := ?_) (a' := ?_) #[true, true, true, true, false, false, false, false, false, false, false, false, false, false, false, false, false, false, false, false, false, false, false, false] rfl rfl (any_of HT_.out (by kernel_rfl)) (fun _ _ _ h => h) (Or.inl ⟨by rfl, ?_⟩) ?_ ?_
        rotate_left
        · intro w'
          go_simp
          with_reducible rfl
        rotate_left
        · simp only [Act.put, List.setIfInBounds_toArray, List.set_cons_zero, List.set_cons_succ, i64_w, i32_w]
          rfl
        refine pure_ (i := 4) (N := some 103) (v := ?_) (a' := ?_) #[true, true, true, true, true, false, false, false, false, false, false, false, false, false, false, false, false, false, false, false, false, false, false, false] rfl rfl (any_of HT_.out (by kernel_rfl)) (fun _ _ _ h => h) (Or.inl ⟨by rfl, ?_⟩) ?_ ?_
        rotate_left
        · intro w'
          go_simp
          (try rw [gl2])
          with_reducible rfl
        rotate_left
        · simp only [Act.put, List.setIfInBounds_toArray, List.set_cons_zero, List.set_cons_succ, i64_w, i32_w]
          rfl
        refine pure_ (i := 5) (N := some 104) (v := ?_) (a' := ?_) #[true, true, true, true, true, true, false, false, false, false, false, false, false, false, false, false, false, false, false, false, false, false, false, false] rfl rfl (any_of HT_.out (by kernel_rfl)) (fun _ _ _ h => h) (Or.inl ⟨by rfl, ?_⟩) ?_ ?_
        rotate_left
        · intro w'
          go_simp
          with_reducible rfl
        rotate_left
        · simp only [Act.put, List.setIfInBounds_toArray, List.set_cons_zero, List.set_cons_succ, i64_w, i32_w]
          rfl
        refine pure_ (i := 6) (N := some 105) (v := ?_) (a' := ?_) #[true, true, true, true, true, true, true, false, false, false, false, false, false, false, false, false, false, false, false, false, false, false, false, false] rfl rfl (any_of HT_.out (by kernel_rfl)) (fun _ _ _ h => h) (Or.inl ⟨by rfl, ?_⟩) ?_ ?_
        rotate_left
        · intro w'
          go_simp
          with_reducible rfl
        rotate_left
        · simp only [Act.put, List.setIfInBounds_toArray, List.set_cons_zero, List.set_cons_succ, i64_w, i32_w]
          rfl
        refine pure_ (i := 7) (N := some 106) (v := ?_) (a' := ?_) #[true, true, true, true, true, true, true, true, false, false, false, false, false, false, false, false, false, false, false, false, false, false, false, false] rfl rfl (any_of HT_.out (by kernel_rfl)) (fun _ _ _ h => h) (Or.inl ⟨by rfl, ?_⟩) ?_ ?_
        rotate_left
        · intro w'
          go_simp
          with_reducible rfl
        rotate_left
        · simp only [Act.put, List.setIfInBounds_toArray, List.set_cons_zero, List.set_cons_succ, i64_w, i32_w]
          rfl
        refine pure_ (i := 8) (N := some 107) (v := ?_) (a' := ?_) #[true, true, true, true, true, true, true, true, true, false, false, false, false, false, false, false, false, false, false, false, false, false, false, false] rfl rfl (any_of HT_.out (by kernel_rfl)) (fun _ _ _ h => h) (Or.inl ⟨by rfl, ?_⟩) ?_ ?_
        rotate_left
        · intro w'
          go_simp
          with_reducible rfl
        rotate_left
        · simp only [Act.put, List.setIfInBounds_toArray, List.set_cons_zero, List.set_cons_succ, i64_w, i32_w]
          rfl
        refine pure_ (i := 9) (N := some 108) (v := ?_) (a' := ?_) #[true, true, true, true, true, true, true, true, true, true, false, false, false, false, false, false, false, false, false, false, false, false, false, false] rfl rfl (any_of HT_.out (by kernel_rfl)) (fun _ _ _ h => h) (Or.inl ⟨by rfl, ?_⟩) ?_ ?_
        rotate_left
        · intro w'
          go_simp
          with_reducible rfl
        rotate_left
        · simp only [Act.put, List.setIfInBounds_toArray, List.set_cons_zero, List.set_cons_succ, i64_w, i32_w]
          rfl
        refine take_ (i := 10) (N := some 109) (v := ?_) (a' := ?_) #[true, true, true, true, true, true, true, true, true, true, true, false, false, false, false, false, false, false, false, false, false, false, false, false] rfl rfl (take_ofW HT_.out HW_.out (by kernel_rfl)) (fun _ _ _ h => h) (Or.inl ⟨by rfl, ?_⟩) hHeld ?_ ?_
        rotate_left
        · rintro w' ⟨s0, s1, s2⟩
          go_simp
          with_reducible rfl
        rotate_left
        · simp only [Act.put, List.setIfInBounds_toArray, List.set_cons_zero, List.set_cons_succ, i64_w, i32_w]
          rfl
        refine pure_ (i := 11) (N := some 110) (v := ?_) (a' := ?_) #[true, true, true, true, true, true, true, true, true, true, true, true, false, false, false, false, false, false, false, false, false, false, false, false] rfl rfl (any_of HT_.out (by kernel_rfl)) (fun _ _ _ h => h) (Or.inl ⟨by rfl, ?_⟩) ?_ ?_
        rotate_left
        · intro w'
          go_simp
          with_reducible rfl
        rotate_left
        · simp only [Act.put, List.setIfInBounds_toArray, List.set_cons_zero, List.set_cons_succ, i64_w, i32_w]
          rfl
        refine take_ (i := 12) (N := some 111) (v := ?_) (a' := ?_) #[true, true, true, true, true, true, true, true, true, true, true, true, true, false, false, false, false, false, false, false, false, false, false, false] rfl rfl (take_ofW HT_.out HW_.out (by kernel_rfl)) (fun _ _ _ h => h) (Or.inl ⟨by rfl, ?_⟩) hHeld ?_ ?_
        rotate_left
        · rintro w' ⟨s0, s1, s2⟩
          go_simp
          with_reducible rfl
        rotate_left
        · simp only [Act.put, List.setIfInBounds_toArray, List.set_cons_zero, List.set_cons_succ, i64_w, i32_w]
          rfl
        refine pure_ (i := 13) (N := some 112) (v := ?_) (a' := ?_) #[true, true, true, true, true, true, true, true, true, true, true, true, true, true, false, false, false, false, false, false, false, false, false, false] rfl rfl (any_of HT_.out (by kernel_rfl)) (fun _ _ _ h => h) (Or.inl ⟨by rfl, ?_⟩) ?_ ?_
        rotate_left
        · intro w'
          go_simp
          (try rw [gt])
          with_reducible rfl
        rotate_left
        · simp only [Act.put, List.setIfInBounds_toArray, List.set_cons_zero, List.set_cons_succ, i64_w, i32_w]
          rfl
        refine pure_ (i := 14) (N := some 113) (v := ?_) (a' := ?_) #[true, true, true, true, true, true, true, true, true, true, true, true, true, true, true, false, false, false, false, false, false, false, false, false] rfl rfl (any_of HT_.out (by kernel_rfl)) (fun _ _ _ h => h) (Or.inl ⟨by rfl, ?_⟩) ?_ ?_
        rotate_left
        · intro w'
          go_simp
          with_reducible rfl
        rotate_left
        · simp only [Act.put, List.setIfInBounds_toArray, List.set_cons_zero, List.set_cons_succ, i64_w, i32_w]
          rfl
        refine pure_ (i := 15) (N := some 114) (v := ?_) (a' := ?_) #[true, true, true, true, true, true, true, true, true, true, true, true, true, true, true, true, false, false, false, false, false, false, false, false] rfl rfl (any_of HT_.out (by kernel_rfl)) (fun _ _ _ h => h) (Or.inl ⟨by rfl, ?_⟩) ?_ ?_
        rotate_left
        · intro w'
          go_simp
          with_reducible rfl
        rotate_left
        · simp only [Act.put, List.setIfInBounds_toArray, List.set_cons_zero, List.set_cons_succ, i64_w, i32_w]
          rfl
        refine pure_ (i := 16) (N := some 115) (v := ?_) (a' := ?_) #[true, true, true, true, true, true, true, true, true, true, true, true, true, true, true, true, true, false, false, false, false, false, false, false] rfl rfl (any_of HT_.out (by kernel_rfl)) (fun _ _ _ h => h) (Or.inl ⟨by rfl, ?_⟩) ?_ ?_
        rotate_left
        · intro w'
          go_simp
          with_reducible rfl
        rotate_left
        · simp only [Act.put, List.setIfInBounds_toArray, List.set_cons_zero, List.set_cons_succ, i64_w, i32_w]
          rfl
        refine pure_ (i := 17) (N := some 116) (v := ?_) (a' := ?_) #[true, true, true, true, true, true, true, true, true, true, true, true, true, true, true, true, true, true, false, false, false, false, false, false] rfl rfl (any_of HT_.out (by kernel_rfl)) (fun _ _ _ h => h) (Or.inl ⟨by rfl, ?_⟩) ?_ ?_
        rotate_left
        · intro w'
          go_simp
          with_reducible rfl
        rotate_left
        · simp only [Act.put, List.setIfInBounds_toArray, List.set_cons_zero, List.set_cons_succ, i64_w, i32_w]
          rfl
        refine pure_ (i := 18) (N := some 117) (v := ?_) (a' := ?_) #[true, true, true, true, true, true, true, true, true, true, true, true, true, true, true, true, true, true, true, false, false, false, false, false] rfl rfl (any_of HT_.out (by kernel_rfl)) (fun _ _ _ h => h) (Or.inl ⟨by rfl, ?_⟩) ?_ ?_
        rotate_left
        · intro w'
          go_simp
          with_reducible rfl
        rotate_left
        · simp only [Act.put, List.setIfInBounds_toArray, List.set_cons_zero, List.set_cons_succ, i64_w, i32_w]
          rfl
        refine take_ (i := 19) (N := some 118) (v := ?_) (a' := ?_) #[true, true, true, true, true, true, true, true, true, true, true, true, true, true, true, true, true, true, true, true, false, false, false, false] rfl rfl (take_ofW HT_.out HW_.out (by kernel_rfl)) (fun _ _ _ h => h) (Or.inl ⟨by rfl, ?_⟩) hHeld ?_ ?_
        rotate_left
        · rintro w' ⟨s0, s1, s2⟩
          go_simp
          with_reducible rfl
        rotate_left
        · simp only [Act.put, List.setIfInBounds_toArray, List.set_cons_zero, List.set_cons_succ, i64_w, i32_w]
          rfl
        refine pure_ (i := 20) (N := some 119) (v := ?_) (a' := ?_) #[true, true, true, true, true, true, true, true, true, true, true, true, true, true, true, true, true, true, true, true, true, false, false, false] rfl rfl (any_of HT_.out (by kernel_rfl)) (fun _ _ _ h => h) (Or.inl ⟨by rfl, ?_⟩) ?_ ?_
        rotate_left
        · intro w'
          go_simp
          with_reducible rfl
        rotate_left
        · simp only [Act.put, List.setIfInBounds_toArray, List.set_cons_zero, List.set_cons_succ, i64_w, i32_w]
          rfl
        refine pure_ (i := 21) (N := some 120) (v := ?_) (a' := ?_) #[true, true, true, true, true, true, true, true, true, true, true, true, true, true, true, true, true, true, true, true, true, true, false, false] rfl rfl (any_of HT_.out (by kernel_rfl)) (fun _ _ _ h => h) (Or.inl ⟨by rfl, ?_⟩) ?_ ?_
        rotate_left
        · intro w'
          go_simp
          (try rw [gd2])
          with_reducible rfl
        rotate_left
        · simp only [Act.put, List.setIfInBounds_toArray, List.set_cons_zero, List.set_cons_succ, i64_w, i32_w]
          rfl
        refine pure_ (i := 22) (N := some 121) (v := ?_) (a' := ?_) #[true, true, true, true, true, true, true, true, true, true, true, true, true, true, true, true, true, true, true, true, true, true, true, false] rfl rfl (any_of HT_.out (by kernel_rfl)) (fun _ _ _ h => h) (Or.inl ⟨by rfl, ?_⟩) ?_ ?_
        rotate_left
        · intro w'
          go_simp
          with_reducible rfl
        rotate_left
        · simp only [Act.put, List.setIfInBounds_toArray, List.set_cons_zero, List.set_cons_succ, i64_w, i32_w]
          rfl
        refine pure_ (i := 23) (N := some 4) (v := ?_) (a' := ?_) #[true, true, true, true, true, true, true, true, true, true, true, true, true, true, true, true, true, true, true, true, true, true, true, true] rfl rfl (any_of HT_.out (by kernel_rfl)) (fun _ _ _ h => h) (Or.inl ⟨by rfl, ?_⟩) ?_ ?_
        rotate_left
        · intro w'
          go_simp
          with_reducible rfl
        rotate_left
        · simp only [Act.put, List.setIfInBounds_toArray, List.set_cons_zero, List.set_cons_succ, i64_w, i32_w]
          rfl
        refine done_ (done_of HT_.out (by kernel_rfl)) ?_
        go_wp2
        go_ret
        exact ⟨rfl, HB.out⟩
      · refine box_step ?hg_7 (N := 13) ?hd_7 (cs := #[.slice none 0 0, .slice none 0 0]) (t := 29) ?hr_7 ?_
        (case hd_7 => rfl)
        (case hg_7 => exact (by rfl))
        (case hr_7 => first | (go_simp; done) | (go_simp; rfl))
        intro gX16 hg w2 hbox hb
        have hk := kept_below hb
        obtain ⟨PX16, hPX16, HLX16⟩ := LB.fresh hg hbox
        have HX16 := Aside0.mk HLX16
        clear HLX16
        have GEX16 := Aside0.mk (show w.heap.size ≤ gX16 from (by rw [hg]; exact HB.out.size))
        have D_F1_X16 := Aside0.mk (new_apart HF1.out.lt hPX16)
        have D_F2_X16 := Aside0.mk (new_apart HF2.out.lt hPX16)
        have D_F3_X16 := Aside0.mk (new_apart HF3.out.lt hPX16)
        have D_F4_X16 := Aside0.mk (new_apart HF4.out.lt hPX16)
        have D_X5_X16 := Aside0.mk (new_apart HX5.out.lt hPX16)
        have D_F6_X16 := Aside0.mk (new_apart HF6.out.lt hPX16)
        have D_F7_X16 := Aside0.mk (new_apart HF7.out.lt hPX16)
        have D_F8_X16 := Aside0.mk (new_apart HF8.out.lt hPX16)
        have D_F9_X16 := Aside0.mk (new_apart HF9.out.lt hPX16)
        have D_X10_X16 := Aside0.mk (new_apart HX10.out.lt hPX16)
        have D_F11_X16 := Aside0.mk (new_apart HF11.out.lt hPX16)
        replace HF1 := Aside0.mk (HF1.out.step hk no_S)
        replace HF2 := Aside0.mk (HF2.out.step hk no_S)
        replace HF3 := Aside0.mk (HF3.out.step hk no_S)
        replace HF4 := Aside0.mk (HF4.out.step hk no_S)
        replace HX5 := Aside0.mk (HX5.out.step hk no_S)
        replace HF6 := Aside0.mk (HF6.out.step hk no_S)
        replace HF7 := Aside0.mk (HF7.out.step hk no_S)
        replace HF8 := Aside0.mk (HF8.out.step hk no_S)
        replace HF9 := Aside0.mk (HF9.out.step hk no_S)
        replace HX10 := Aside0.mk (HX10.out.step hk no_S)
        replace HF11 := Aside0.mk (HF11.out.step hk no_S)
        replace HB := Aside0.mk (below_step HB.out hb)
        clear hb hk hbox hg hPX16
        (try clear hxX5_0 hfX5_0 hxX5_1 hfX5_1)
        have hxX5_0 := (HX5.out.cell 0).trans (show _ = some (.slice BF3 s.length DF3) from rfl)
        have hfX5_0 := HX5.out.frozen 0
        have hxX5_1 := (HX5.out.cell 1).trans (show _ = some (.slice BF4 q.length DF4) from rfl)
        have hfX5_1 := HX5.out.frozen 1
        (try clear hxX16_0 hfX16_0 hxX16_1 hfX16_1)
        have hxX16_0 := (HX16.out.cell 0).trans (show _ = some (.slice none 0 0) from rfl)
        have hfX16_0 := HX16.out.frozen 0
        have hxX16_1 := (HX16.out.cell 1).trans (show _ = some (.slice none 0 0) from rfl)
        have hfX16_1 := HX16.out.frozen 1
        refine hK.out _ _ ⟨hxX5_0, hxX5_1⟩ (fun hHeld => ?_)
        clear hK K
        refine norm_ (a' := ?_) ?_ ?_
        rotate_left
        · show Act.put _ (some 13) _ = _
          simp only [Act.put, List.setIfInBounds_toArray, List.set_cons_zero, List.set_cons_succ, i64_w, i32_w]
          rfl
        refine one_ (i := 5) (N := some 75) #[true, true, true, true, true, true, false, false, false, true, false, false] rfl rfl (one_of HT_.out (by kernel_rfl)) (by decide) (fun K hK => ?_)
        refine goes_ Try.func27 (by kernel_rfl) rfl #[.agg #[.slice BF3 s.length DF3, .slice BF4 q.length DF4], .int .i64 a1, .int .i64 a2] (by rfl) rfl rfl (by (try simp only [List.map_toArray, List.map_cons, List.map_nil]); first | done | rfl | (simp only [List.length_drop, List.length_take]; rfl)) ?_
        (with_reducible refine (impl_DiskCrash.calls k _ _ s _ _ q a1 a2 d q2 0 _ HF3.out.reads HF3.out.room HF4.out.reads HF4.out.room E9.out).mono ?_)
        rintro e w2 ⟨vF17, vF18, rfl, hrF17, hrF18, hb⟩
        refine ⟨_, rfl, ?_⟩
        have hk := kept_below hb
        obtain ⟨PF17, hPF17, HLF17⟩ := LR.fresh rfl HB.out hrF17
        have HF17 := Aside0.mk HLF17
        clear HLF17 hrF17
        have D_F1_F17 := Aside0.mk (new_apart HF1.out.lt hPF17)
        have D_F2_F17 := Aside0.mk (new_apart HF2.out.lt hPF17)
        have D_F3_F17 := Aside0.mk (new_apart HF3.out.lt hPF17)
        have D_F4_F17 := Aside0.mk (new_apart HF4.out.lt hPF17)
        have D_X5_F17 := Aside0.mk (new_apart HX5.out.lt hPF17)
        have D_F6_F17 := Aside0.mk (new_apart HF6.out.lt hPF17)
        have D_F7_F17 := Aside0.mk (new_apart HF7.out.lt hPF17)
        have D_F8_F17 := Aside0.mk (new_apart HF8.out.lt hPF17)
        have D_F9_F17 := Aside0.mk (new_apart HF9.out.lt hPF17)
        have D_X10_F17 := Aside0.mk (new_apart HX10.out.lt hPF17)
        have D_F11_F17 := Aside0.mk (new_apart HF11.out.lt hPF17)
        have D_X16_F17 := Aside0.mk (new_apart HX16.out.lt hPF17)
        obtain ⟨PF18, hPF18, HLF18⟩ := LS.fresh HB.out hrF18
        have HF18 := Aside0.mk HLF18
        clear HLF18 hrF18
        have D_F1_F18 := Aside0.mk (new_apart HF1.out.lt hPF18)
        have D_F2_F18 := Aside0.mk (new_apart HF2.out.lt hPF18)
        have D_F3_F18 := Aside0.mk (new_apart HF3.out.lt hPF18)
        have D_F4_F18 := Aside0.mk (new_apart HF4.out.lt hPF18)
        have D_X5_F18 := Aside0.mk (new_apart HX5.out.lt hPF18)
        have D_F6_F18 := Aside0.mk (new_apart HF6.out.lt hPF18)
        have D_F7_F18 := Aside0.mk (new_apart HF7.out.lt hPF18)
        have D_F8_F18 := Aside0.mk (new_apart HF8.out.lt hPF18)
        have D_F9_F18 := Aside0.mk (new_apart HF9.out.lt hPF18)
        have D_X10_F18 := Aside0.mk (new_apart HX10.out.lt hPF18)
        have D_F11_F18 := Aside0.mk (new_apart HF11.out.lt hPF18)
        have D_X16_F18 := Aside0.mk (new_apart HX16.out.lt hPF18)
        have D_F17_F18 := Aside0.mk (show ∀ k_, PF17 k_ → ¬ PF18 k_ from fun k_ h1_ h2_ => by have a1_ := hPF17 k_ h1_; have a2_ := hPF18 k_ h2_; simp_all)
        replace HF1 := Aside0.mk (HF1.out.step hk no_S)
        replace HF2 := Aside0.mk (HF2.out.step hk no_S)
        replace HF3 := Aside0.mk (HF3.out.step hk no_S)
        replace HF4 := Aside0.mk (HF4.out.step hk no_S)
        replace HX5 := Aside0.mk (HX5.out.step hk no_S)
        replace HF6 := Aside0.mk (HF6.out.step hk no_S)
        replace HF7 := Aside0.mk (HF7.out.step hk no_S)
        replace HF8 := Aside0.mk (HF8.out.step hk no_S)
        replace HF9 := Aside0.mk (HF9.out.step hk no_S)
        replace HX10 := Aside0.mk (HX10.out.step hk no_S)
        replace HF11 := Aside0.mk (HF11.out.step hk no_S)
        replace HX16 := Aside0.mk (HX16.out.step hk no_S)
        clear hPF17
        obtain ⟨BF17, DF17, e_F17⟩ := HF17.out.val
        subst e_F17
        clear hPF18
        obtain ⟨BF18, DF18, e_F18⟩ := HF18.out.val
        subst e_F18
        replace HB := Aside0.mk (below_step HB.out hb)
        clear hb hk
        (try clear hxX5_0 hfX5_0 hxX5_1 hfX5_1)
        have hxX5_0 := (HX5.out.cell 0).trans (show _ = some (.slice BF3 s.length DF3) from rfl)
        have hfX5_0 := HX5.out.frozen 0
        have hxX5_1 := (HX5.out.cell 1).trans (show _ = some (.slice BF4 q.length DF4) from rfl)
        have hfX5_1 := HX5.out.frozen 1
        (try clear hxX16_0 hfX16_0 hxX16_1 hfX16_1)
        have hxX16_0 := (HX16.out.cell 0).trans (show _ = some (.slice none 0 0) from rfl)
        have hfX16_0 := HX16.out.frozen 0
        have hxX16_1 := (HX16.out.cell 1).trans (show _ = some (.slice none 0 0) from rfl)
        have hfX16_1 := HX16.out.frozen 1
        refine hK.out _ _ ⟨hxX5_0, hxX5_1⟩ (fun hHeld => ?_)
        clear hK K
        refine norm_ (a' := ?_) ?_ ?_
        rotate_left
        · show Act.put _ (some 75) _ = _
          simp only [Act.put, List.setIfInBounds_toArray, List.set_cons_zero, List.set_cons_succ, i64_w, i32_w]
          rfl
        refine pure_ (i := 6) (N := some 69) (v := ?_) (a' := ?_) #[true, true, true, true, true, true, true, false, false, true, false, false] rfl rfl (any_of HT_.out (by kernel_rfl)) (fun _ _ _ h => h) (Or.inl ⟨by rfl, ?_⟩) ?_ ?_
        rotate_left
        · intro w'
          go_simp
          with_reducible rfl
        rotate_left
        · simp only [Act.put, List.setIfInBounds_toArray, List.set_cons_zero, List.set_cons_succ, i64_w, i32_w]
          rfl
        refine pure_ (i := 7) (N := some 76) (v := ?_) (a' := ?_) #[true, true, true, true, true, true, true, true, false, true, false, false] rfl rfl (any_of HT_.out (by kernel_rfl)) (fun _ _ _ h => h) (Or.inl ⟨by rfl, ?_⟩) ?_ ?_
        rotate_left
        · intro w'
          go_simp
          with_reducible rfl
        rotate_left
        · simp only [Act.put, List.setIfInBounds_toArray, List.set_cons_zero, List.set_cons_succ, i64_w, i32_w]
          rfl
        refine pure_ (i := 8) (N := some 77) (v := ?_) (a' := ?_) #[true, true, true, true, true, true, true, true, true, true, false, false] rfl rfl (any_of HT_.out (by kernel_rfl)) (fun _ _ _ h => h) (Or.inl ⟨by rfl, ?_⟩) ?_ ?_
        rotate_left
        · intro w'
          go_simp
          with_reducible rfl
        rotate_left
        · simp only [Act.put, List.setIfInBounds_toArray, List.set_cons_zero, List.set_cons_succ, i64_w, i32_w]
          rfl
        refine one_ (i := 10) (N := none) #[true, true, true, true, true, true, true, true, true, true, true, false] rfl rfl (one_of HT_.out (by kernel_rfl)) (by decide) (fun K hK => ?_)
        refine LB.stored_step HX16.out HB.out GEX16.out 0 [.slice BF17 d.length DF17, .slice BF18 q2.length DF18] (by rfl) rfl ?hr_8 ?_
        (case hr_8 => first | (go_simp; done) | (go_simp; rfl))
        intro w2 hx hk hb
        replace HF1 := Aside0.mk (HF1.out.step hk D_F1_X16.out)
        replace HF2 := Aside0.mk (HF2.out.step hk D_F2_X16.out)
        replace HF3 := Aside0.mk (HF3.out.step hk D_F3_X16.out)
        replace HF4 := Aside0.mk (HF4.out.step hk D_F4_X16.out)
        replace HX5 := Aside0.mk (HX5.out.step hk D_X5_X16.out)
        replace HF6 := Aside0.mk (HF6.out.step hk D_F6_X16.out)
        replace HF7 := Aside0.mk (HF7.out.step hk D_F7_X16.out)
        replace HF8 := Aside0.mk (HF8.out.step hk D_F8_X16.out)
        replace HF9 := Aside0.mk (HF9.out.step hk D_F9_X16.out)
        replace HX10 := Aside0.mk (HX10.out.step hk D_X10_X16.out)
        replace HF11 := Aside0.mk (HF11.out.step hk D_F11_X16.out)
        replace HF17 := Aside0.mk (HF17.out.step hk (apart_symm D_X16_F17.out))
        replace HF18 := Aside0.mk (HF18.out.step hk (apart_symm D_X16_F18.out))
        replace HB := Aside0.mk hb
        replace HX16 := Aside0.mk (show LB w2 PX16 gX16 29 #[.slice BF17 d.length DF17, .slice BF18 q2.length DF18] from hx)
        clear hk hx hb
        (try clear hxX5_0 hfX5_0 hxX5_1 hfX5_1)
        have hxX5_0 := (HX5.out.cell 0).trans (show _ = some (.slice BF3 s.length DF3) from rfl)
        have hfX5_0 := HX5.out.frozen 0
        have hxX5_1 := (HX5.out.cell 1).trans (show _ = some (.slice BF4 q.length DF4) from rfl)
        have hfX5_1 := HX5.out.frozen 1
        (try clear hxX16_0 hfX16_0 hxX16_1 hfX16_1)
        have hxX16_0 := (HX16.out.cell 0).trans (show _ = some (.slice BF17 d.length DF17) from rfl)
        have hfX16_0 := HX16.out.frozen 0
        have hxX16_1 := (HX16.out.cell 1).trans (show _ = some (.slice BF18 q2.length DF18) from rfl)
        have hfX16_1 := HX16.out.frozen 1
        refine hK.out _ _ ⟨hxX5_0, hxX5_1⟩ (fun hHeld => ?_)
        clear hK K
        refine pure_ (i := 11) (N := some 14) (v := ?_) (a' := ?_) #[true, true, true, true, true, true, true, true, true, true, true, true] rfl rfl (any_of HT_.out (by kernel_rfl)) (fun _ _ _ h => h) (Or.inl ⟨by rfl, ?_⟩) ?_ ?_
        rotate_left
        · intro w'
          go_simp
          with_reducible rfl
        rotate_left
        · simp only [Act.put, List.setIfInBounds_toArray, List.set_cons_zero, List.set_cons_succ, i64_w, i32_w]
          rfl
        refine done_ (done_of HT_.out (by kernel_rfl)) ?_
        go_upto_region 12 with (first | ((with_reducible refine gate_callee (f := 13) rfl ?_); refine goesL_ (some 80) rfl rfl Try.func13 (by kernel_rfl) rfl #[.agg #[.slice BF17 d.length DF17, .slice BF18 q2.length DF18]] rfl (by (try simp only [List.map_toArray, List.map_cons, List.map_nil]); first | done | rfl | (simp only [List.length_drop, List.length_take]; rfl)) ?_; (with_reducible refine (impl_DiskBytes.calls k _ _ d _ _ q2 b2 0 _ HF17.out.reads HF17.out.room HF18.out.reads HF18.out.room E10.out).mono ?_); rintro e w2 ⟨vF19, rfl, hrF19, hb⟩; refine ⟨_, rfl, ?_⟩; have hk := kept_below hb; obtain ⟨PF19, hPF19, HLF19⟩ := LR.fresh rfl HB.out hrF19; have HF19 := Aside0.mk HLF19; clear HLF19 hrF19; have D_F1_F19 := Aside0.mk (new_apart HF1.out.lt hPF19); have D_F2_F19 := Aside0.mk (new_apart HF2.out.lt hPF19); have D_F3_F19 := Aside0.mk (new_apart HF3.out.lt hPF19); have D_F4_F19 := Aside0.mk (new_apart HF4.out.lt hPF19); have D_X5_F19 := Aside0.mk (new_apart HX5.out.lt hPF19); have D_F6_F19 := Aside0.mk (new_apart HF6.out.lt hPF19); have D_F7_F19 := Aside0.mk (new_apart HF7.out.lt hPF19); have D_F8_F19 := Aside0.mk (new_apart HF8.out.lt hPF19); have D_F9_F19 := Aside0.mk (new_apart HF9.out.lt hPF19); have D_X10_F19 := Aside0.mk (new_apart HX10.out.lt hPF19); have D_F11_F19 := Aside0.mk (new_apart HF11.out.lt hPF19); have D_X16_F19 := Aside0.mk (new_apart HX16.out.lt hPF19); have D_F17_F19 := Aside0.mk (new_apart HF17.out.lt hPF19); have D_F18_F19 := Aside0.mk (new_apart HF18.out.lt hPF19); replace HF1 := Aside0.mk (HF1.out.step hk no_S); replace HF2 := Aside0.mk (HF2.out.step hk no_S); replace HF3 := Aside0.mk (HF3.out.step hk no_S); replace HF4 := Aside0.mk (HF4.out.step hk no_S); replace HX5 := Aside0.mk (HX5.out.step hk no_S); replace HF6 := Aside0.mk (HF6.out.step hk no_S); replace HF7 := Aside0.mk (HF7.out.step hk no_S); replace HF8 := Aside0.mk (HF8.out.step hk no_S); replace HF9 := Aside0.mk (HF9.out.step hk no_S); replace HX10 := Aside0.mk (HX10.out.step hk no_S); replace HF11 := Aside0.mk (HF11.out.step hk no_S); replace HX16 := Aside0.mk (HX16.out.step hk no_S); replace HF17 := Aside0.mk (HF17.out.step hk no_S); replace HF18 := Aside0.mk (HF18.out.step hk no_S); clear hPF19; obtain ⟨BF19, DF19, e_F19⟩ := HF19.out.val; subst e_F19; replace HB := Aside0.mk (below_step HB.out hb); clear hb hk; (try clear hxX5_0 hfX5_0 hxX5_1 hfX5_1); have hxX5_0 := (HX5.out.cell 0).trans (show _ = some (.slice BF3 s.length DF3) from rfl); have hfX5_0 := HX5.out.frozen 0; have hxX5_1 := (HX5.out.cell 1).trans (show _ = some (.slice BF4 q.length DF4) from rfl); have hfX5_1 := HX5.out.frozen 1; (try clear hxX16_0 hfX16_0 hxX16_1 hfX16_1); have hxX16_0 := (HX16.out.cell 0).trans (show _ = some (.slice BF17 d.length DF17) from rfl); have hfX16_0 := HX16.out.frozen 0; have hxX16_1 := (HX16.out.cell 1).trans (show _ = some (.slice BF18 q2.length DF18) from rfl); have hfX16_1 := HX16.out.frozen 1))
        obtain ⟨i01, hi01, _, hsz1, _⟩ := info_parts info5
        obtain ⟨hlc1, hcut1, hC1⟩ := cut_take (d := (Kd.int .u8)) (P := Try.prog) 22 5 .i64 Try.underlying22 hi01 BF11 DF11 (b2.length : Int) b3 NB3.out HF11.out.room (by omega) GLE.out
        have hcv3 := fun m_ : Nat => Kd.C_string (P := Try.prog) (w := w2.drewN m_) (A := BF11) (c := DF11) Try.underlying22 Try.underlying5 Try.underlying9 (Kd.C_drewN (hC1 _ HF11.out.reads) m_)
        have hcv4 := fun m_ : Nat => Kd.C_string (P := Try.prog) (w := w2.drewN m_) (A := BF19) (c := DF19) Try.underlying22 Try.underlying5 Try.underlying9 (Kd.C_drewN HF19.out.reads m_)
        clear hlc1 hC1 hi01 hsz1
        refine start_ (n := 24) (S := fun w' => w'.cell? ⟨gX5, 0, none⟩ = some (.slice BF3 s.length DF3) ∧ (convert 22 9 (.slice BF11 b3.length DF11)).run Try.prog w' = .ok (.string (strOfNums b3)) w' ∧ (convert 22 9 (.slice BF19 b2.length DF19)).run Try.prog w' = .ok (.string (strOfNums b2)) w') (ds := []) #[false, false, false, false, false, false, false, false, false, false, false, false, false, false, false, false, false, false, false, false, false, false, false, false] (by kernel_rfl) rfl rfl ⟨hxX5_0, hcv3 1, hcv4 1⟩ (fun hHeld => ?_)
        refine with_tabW laws_FnDisk.tab12 laws_FnDisk.bits12 (fun HT_ HW_ => ?_)
        generalize hwd_ : World.drew w2 = wd_ at hHeld ⊢
        have hk := kept_drew hwd_
        replace HF1 := Aside0.mk (HF1.out.step hk no_S)
        replace HF2 := Aside0.mk (HF2.out.step hk no_S)
        replace HF3 := Aside0.mk (HF3.out.step hk no_S)
        replace HF4 := Aside0.mk (HF4.out.step hk no_S)
        replace HX5 := Aside0.mk (HX5.out.step hk no_S)
        replace HF6 := Aside0.mk (HF6.out.step hk no_S)
        replace HF7 := Aside0.mk (HF7.out.step hk no_S)
        replace HF8 := Aside0.mk (HF8.out.step hk no_S)
        replace HF9 := Aside0.mk (HF9.out.step hk no_S)
        replace HX10 := Aside0.mk (HX10.out.step hk no_S)
        replace HF11 := Aside0.mk (HF11.out.step hk no_S)
        replace HX16 := Aside0.mk (HX16.out.step hk no_S)
        replace HF17 := Aside0.mk (HF17.out.step hk no_S)
        replace HF18 := Aside0.mk (HF18.out.step hk no_S)
        replace HF19 := Aside0.mk (HF19.out.step hk no_S)
        replace HB := Aside0.mk (below_drewd HB.out hwd_)
        clear hk hwd_
        (try clear hxX5_0 hfX5_0 hxX5_1 hfX5_1)
        have hxX5_0 := (HX5.out.cell 0).trans (show _ = some (.slice BF3 s.length DF3) from rfl)
        have hfX5_0 := HX5.out.frozen 0
        have hxX5_1 := (HX5.out.cell 1).trans (show _ = some (.slice BF4 q.length DF4) from rfl)
        have hfX5_1 := HX5.out.frozen 1
        (try clear hxX16_0 hfX16_0 hxX16_1 hfX16_1)
        have hxX16_0 := (HX16.out.cell 0).trans (show _ = some (.slice BF17 d.length DF17) from rfl)
        have hfX16_0 := HX16.out.frozen 0
        have hxX16_1 := (HX16.out.cell 1).trans (show _ = some (.slice BF18 q2.length DF18) from rfl)
        have hfX16_1 := HX16.out.frozen 1
        refine pure_ (i := 0) (N := some 99) (v := ?_) (a' := ?_) #[true, false, false, false, false, false, false, false, false, false, false, false, false, false, false, false, false, false, false, false, false, false, false, false] rfl rfl (any_of HT_.out (by kernel_rfl)) (fun _ _ _ h => h) (Or.inl ⟨by rfl, ?_⟩) ?_ ?_
        rotate_left
        · intro w'
          go_simp
          with_reducible rfl
        rotate_left
        · simp only [Act.put, List.setIfInBounds_toArray, List.set_cons_zero, List.set_cons_succ, i64_w, i32_w]
          rfl
        refine pure_ (i := 1) (N := some 100) (v := ?_) (a' := ?_) #[true, true, false, false, false, false, false, false, false, false, false, false, false, false, false, false, false, false, false, false, false, false, false, false] rfl rfl (any_of HT_.out (by kernel_rfl)) (fun _ _ _ h => h) (Or.inl ⟨by rfl, ?_⟩) ?_ ?_
        rotate_left
        · intro w'
          go_simp
          with_reducible rfl
        rotate_left
        · simp only [Act.put, List.setIfInBounds_toArray, List.set_cons_zero, List.set_cons_succ, i64_w, i32_w]
          rfl
        refine pure_ (i := 2) (N := some 101) (v := ?_) (a' := ?_) #[true, true, true, false, false, false, false, false, false, false, false, false, false, false, false, false, false, false, false, false, false, false, false, false] rfl rfl (any_of HT_.out (by kernel_rfl)) (fun _ _ _ h => h) (Or.inl ⟨by rfl, ?_⟩) ?_ ?_
        rotate_left
        · intro w'
          go_simp
          with_reducible rfl
        rotate_left
        · simp only [Act.put, List.setIfInBounds_toArray, List.set_cons_zero, List.set_cons_succ, i64_w, i32_w]
          rfl
        refine pure_ (i := 3) (N := some 102) (v := ?_) (a' := ?_) #[true, true, true, true, false, false, false, false, false, false, false, false, false, false, false, false, false, false, false, false, false, false, false, false] rfl rfl (any_of HT_.out (by kernel_rfl)) (fun _ _ _ h => h) (Or.inl ⟨by rfl, ?_⟩) ?_ ?_
        rotate_left
        · intro w'
          go_simp
          with_reducible rfl
        rotate_left
        · simp only [Act.put, List.setIfInBounds_toArray, List.set_cons_zero, List.set_cons_succ, i64_w, i32_w]
          rfl
        refine pure_ (i := 4) (N := some 103) (v := ?_) (a' := ?_) #[true, true, true, true, true, false, false, false, false, false, false, false, false, false, false, false, false, false, false, false, false, false, false, false] rfl rfl (any_of HT_.out (by kernel_rfl)) (fun _ _ _ h => h) (Or.inl ⟨by rfl, ?_⟩) ?_ ?_
        rotate_left
        · intro w'
          go_simp
          (try rw [gl2])
          with_reducible rfl
        rotate_left
        · simp only [Act.put, List.setIfInBounds_toArray, List.set_cons_zero, List.set_cons_succ, i64_w, i32_w]
          rfl
        refine pure_ (i := 5) (N := some 104) (v := ?_) (a' := ?_) #[true, true, true, true, true, true, false, false, false, false, false, false, false, false, false, false, false, false, false, false, false, false, false, false] rfl rfl (any_of HT_.out (by kernel_rfl)) (fun _ _ _ h => h) (Or.inl ⟨by rfl, ?_⟩) ?_ ?_
        rotate_left
        · intro w'
          go_simp
          with_reducible rfl
        rotate_left
        · simp only [Act.put, List.setIfInBounds_toArray, List.set_cons_zero, List.set_cons_succ, i64_w, i32_w]
          rfl
        refine pure_ (i := 6) (N := some 105) (v := ?_) (a' := ?_) #[true, true, true, true, true, true, true, false, false, false, false, false, false, false, false, false, false, false, false, false, false, false, false, false] rfl rfl (any_of HT_.out (by kernel_rfl)) (fun _ _ _ h => h) (Or.inl ⟨by rfl, ?_⟩) ?_ ?_
        rotate_left
        · intro w'
          go_simp
          with_reducible rfl
        rotate_left
        · simp only [Act.put, List.setIfInBounds_toArray, List.set_cons_zero, List.set_cons_succ, i64_w, i32_w]
          rfl
        refine pure_ (i := 7) (N := some 106) (v := ?_) (a' := ?_) #[true, true, true, true, true, true, true, true, false, false, false, false, false, false, false, false, false, false, false, false, false, false, false, false] rfl rfl (any_of HT_.out (by kernel_rfl)) (fun _ _ _ h => h) (Or.inl ⟨by rfl, ?_⟩) ?_ ?_
        rotate_left
        · intro w'
          go_simp
          with_reducible rfl
        rotate_left
        · simp only [Act.put, List.setIfInBounds_toArray, List.set_cons_zero, List.set_cons_succ, i64_w, i32_w]
          rfl
        refine pure_ (i := 8) (N := some 107) (v := ?_) (a' := ?_) #[true, true, true, true, true, true, true, true, true, false, false, false, false, false, false, false, false, false, false, false, false, false, false, false] rfl rfl (any_of HT_.out (by kernel_rfl)) (fun _ _ _ h => h) (Or.inl ⟨by rfl, ?_⟩) ?_ ?_
        rotate_left
        · intro w'
          go_simp
          with_reducible rfl
        rotate_left
        · simp only [Act.put, List.setIfInBounds_toArray, List.set_cons_zero, List.set_cons_succ, i64_w, i32_w]
          rfl
        refine pure_ (i := 9) (N := some 108) (v := ?_) (a' := ?_) #[true, true, true, true, true, true, true, true, true, true, false, false, false, false, false, false, false, false, false, false, false, false, false, false] rfl rfl (any_of HT_.out (by kernel_rfl)) (fun _ _ _ h => h) (Or.inl ⟨by rfl, ?_⟩) ?_ ?_
        rotate_left
        · intro w'
          go_simp
          with_reducible rfl
        rotate_left
        · simp only [Act.put, List.setIfInBounds_toArray, List.set_cons_zero, List.set_cons_succ, i64_w, i32_w]
          rfl
        refine take_ (i := 10) (N := some 109) (v := ?_) (a' := ?_) #[true, true, true, true, true, true, true, true, true, true, true, false, false, false, false, false, false, false, false, false, false, false, false, false] rfl rfl (take_ofW HT_.out HW_.out (by kernel_rfl)) (fun _ _ _ h => h) (Or.inl ⟨by rfl, ?_⟩) hHeld ?_ ?_
        rotate_left
        · rintro w' ⟨s0, s1, s2⟩
          go_simp
          with_reducible rfl
        rotate_left
        · simp only [Act.put, List.setIfInBounds_toArray, List.set_cons_zero, List.set_cons_succ, i64_w, i32_w]
          rfl
        refine pure_ (i := 11) (N := some 110) (v := ?_) (a' := ?_) #[true, true, true, true, true, true, true, true, true, true, true, true, false, false, false, false, false, false, false, false, false, false, false, false] rfl rfl (any_of HT_.out (by kernel_rfl)) (fun _ _ _ h => h) (Or.inl ⟨by rfl, ?_⟩) ?_ ?_
        rotate_left
        · intro w'
          go_simp
          with_reducible rfl
        rotate_left
        · simp only [Act.put, List.setIfInBounds_toArray, List.set_cons_zero, List.set_cons_succ, i64_w, i32_w]
          rfl
        refine take_ (i := 12) (N := some 111) (v := ?_) (a' := ?_) #[true, true, true, true, true, true, true, true, true, true, true, true, true, false, false, false, false, false, false, false, false, false, false, false] rfl rfl (take_ofW HT_.out HW_.out (by kernel_rfl)) (fun _ _ _ h => h) (Or.inl ⟨by rfl, ?_⟩) hHeld ?_ ?_
        rotate_left
        · rintro w' ⟨s0, s1, s2⟩
          go_simp
          with_reducible rfl
        rotate_left
        · simp only [Act.put, List.setIfInBounds_toArray, List.set_cons_zero, List.set_cons_succ, i64_w, i32_w]
          rfl
        refine pure_ (i := 13) (N := some 112) (v := ?_) (a' := ?_) #[true, true, true, true, true, true, true, true, true, true, true, true, true, true, false, false, false, false, false, false, false, false, false, false] rfl rfl (any_of HT_.out (by kernel_rfl)) (fun _ _ _ h => h) (Or.inl ⟨by rfl, ?_⟩) ?_ ?_
        rotate_left
        · intro w'
          go_simp
          (try rw [gt])
          with_reducible rfl
        rotate_left
        · simp only [Act.put, List.setIfInBounds_toArray, List.set_cons_zero, List.set_cons_succ, i64_w, i32_w]
          rfl
        refine pure_ (i := 14) (N := some 113) (v := ?_) (a' := ?_) #[true, true, true, true, true, true, true, true, true, true, true, true, true, true, true, false, false, false, false, false, false, false, false, false] rfl rfl (any_of HT_.out (by kernel_rfl)) (fun _ _ _ h => h) (Or.inl ⟨by rfl, ?_⟩) ?_ ?_
        rotate_left
        · intro w'
          go_simp
          with_reducible rfl
        rotate_left
        · simp only [Act.put, List.setIfInBounds_toArray, List.set_cons_zero, List.set_cons_succ, i64_w, i32_w]
          rfl
        refine pure_ (i := 15) (N := some 114) (v := ?_) (a' := ?_) #[true, true, true, true, true, true, true, true, true, true, true, true, true, true, true, true, false, false, false, false, false, false, false, false] rfl rfl (any_of HT_.out (by kernel_rfl)) (fun _ _ _ h => h) (Or.inl ⟨by rfl, ?_⟩) ?_ ?_
        rotate_left
        · intro w'
          go_simp
          with_reducible rfl
        rotate_left
        · simp only [Act.put, List.setIfInBounds_toArray, List.set_cons_zero, List.set_cons_succ, i64_w, i32_w]
          rfl
        refine pure_ (i := 16) (N := some 115) (v := ?_) (a' := ?_) #[true, true, true, true, true, true, true, true, true, true, true, true, true, true, true, true, true, false, false, false, false, false, false, false] rfl rfl (any_of HT_.out (by kernel_rfl)) (fun _ _ _ h => h) (Or.inl ⟨by rfl, ?_⟩) ?_ ?_
        rotate_left
        · intro w'
          go_simp
          with_reducible rfl
        rotate_left
        · simp only [Act.put, List.setIfInBounds_toArray, List.set_cons_zero, List.set_cons_succ, i64_w, i32_w]
          rfl
        refine pure_ (i := 17) (N := some 116) (v := ?_) (a' := ?_) #[true, true, true, true, true, true, true, true, true, true, true, true, true, true, true, true, true, true, false, false, false, false, false, false] rfl rfl (any_of HT_.out (by kernel_rfl)) (fun _ _ _ h => h) (Or.inl ⟨by rfl, ?_⟩) ?_ ?_
        rotate_left
        · intro w'
          go_simp
          with_reducible rfl
        rotate_left
        · simp only [Act.put, List.setIfInBounds_toArray, List.set_cons_zero, List.set_cons_succ, i64_w, i32_w]
          rfl
        refine pure_ (i := 18) (N := some 117) (v := ?_) (a' := ?_) #[true, true, true, true, true, true, true, true, true, true, true, true, true, true, true, true, true, true, true, false, false, false, false, false] rfl rfl (any_of HT_.out (by kernel_rfl)) (fun _ _ _ h => h) (Or.inl ⟨by rfl, ?_⟩) ?_ ?_
        rotate_left
        · intro w'
          go_simp
          with_reducible rfl
        rotate_left
        · simp only [Act.put, List.setIfInBounds_toArray, List.set_cons_zero, List.set_cons_succ, i64_w, i32_w]
          rfl
        refine take_ (i := 19) (N := some 118) (v := ?_) (a' := ?_) #[true, true, true, true, true, true, true, true, true, true, true, true, true, true, true, true, true, true, true, true, false, false, false, false] rfl rfl (take_ofW HT_.out HW_.out (by kernel_rfl)) (fun _ _ _ h => h) (Or.inl ⟨by rfl, ?_⟩) hHeld ?_ ?_
        rotate_left
        · rintro w' ⟨s0, s1, s2⟩
          go_simp
          with_reducible rfl
        rotate_left
        · simp only [Act.put, List.setIfInBounds_toArray, List.set_cons_zero, List.set_cons_succ, i64_w, i32_w]
          rfl
        refine pure_ (i := 20) (N := some 119) (v := ?_) (a' := ?_) #[true, true, true, true, true, true, true, true, true, true, true, true, true, true, true, true, true, true, true, true, true, false, false, false] rfl rfl (any_of HT_.out (by kernel_rfl)) (fun _ _ _ h => h) (Or.inl ⟨by rfl, ?_⟩) ?_ ?_
        rotate_left
        · intro w'
          go_simp
          with_reducible rfl
        rotate_left
        · simp only [Act.put, List.setIfInBounds_toArray, List.set_cons_zero, List.set_cons_succ, i64_w, i32_w]
          rfl
        refine pure_ (i := 21) (N := some 120) (v := ?_) (a' := ?_) #[true, true, true, true, true, true, true, true, true, true, true, true, true, true, true, true, true, true, true, true, true, true, false, false] rfl rfl (any_of HT_.out (by kernel_rfl)) (fun _ _ _ h => h) (Or.inl ⟨by rfl, ?_⟩) ?_ ?_
        rotate_left
        · intro w'
          go_simp
          (try rw [gd2])
          with_reducible rfl
        rotate_left
        · simp only [Act.put, List.setIfInBounds_toArray, List.set_cons_zero, List.set_cons_succ, i64_w, i32_w]
          rfl
        refine pure_ (i := 22) (N := some 121) (v := ?_) (a' := ?_) #[true, true, true, true, true, true, true, true, true, true, true, true, true, true, true, true, true, true, true, true, true, true, true, false] rfl rfl (any_of HT_.out (by kernel_rfl)) (fun _ _ _ h => h) (Or.inl ⟨by rfl, ?_⟩) ?_ ?_
        rotate_left
        · intro w'
          go_simp
          with_reducible rfl
        rotate_left
        · simp only [Act.put, List.setIfInBounds_toArray, List.set_cons_zero, List.set_cons_succ, i64_w, i32_w]
          rfl
        refine pure_ (i := 23) (N := some 4) (v := ?_) (a' := ?_) #[true, true, true, true, true, true, true, true, true, true, true, true, true, true, true, true, true, true, true, true, true, true, true, true] rfl rfl (any_of HT_.out (by kernel_rfl)) (fun _ _ _ h => h) (Or.inl ⟨by rfl, ?_⟩) ?_ ?_
        rotate_left
        · intro w'
          go_simp
          with_reducible rfl
        rotate_left
        · simp only [Act.put, List.setIfInBounds_toArray, List.set_cons_zero, List.set_cons_succ, i64_w, i32_w]
          rfl
        refine done_ (done_of HT_.out (by kernel_rfl)) ?_
        go_wp2
        go_ret
        exact ⟨rfl, HB.out⟩
    · refine box_step ?hg_9 (N := 13) ?hd_9 (cs := #[.slice none 0 0, .slice none 0 0]) (t := 29) ?hr_9 ?_
      (case hd_9 => rfl)
      (case hg_9 => exact (by rfl))
      (case hr_9 => first | (go_simp; done) | (go_simp; rfl))
      intro gX20 hg w2 hbox hb
      have hk := kept_below hb
      obtain ⟨PX20, hPX20, HLX20⟩ := LB.fresh hg hbox
      have HX20 := Aside0.mk HLX20
      clear HLX20
      have GEX20 := Aside0.mk (show w.heap.size ≤ gX20 from (by rw [hg]; exact HB.out.size))
      have D_F1_X20 := Aside0.mk (new_apart HF1.out.lt hPX20)
      have D_F2_X20 := Aside0.mk (new_apart HF2.out.lt hPX20)
      have D_F3_X20 := Aside0.mk (new_apart HF3.out.lt hPX20)
      have D_F4_X20 := Aside0.mk (new_apart HF4.out.lt hPX20)
      have D_X5_X20 := Aside0.mk (new_apart HX5.out.lt hPX20)
      have D_F6_X20 := Aside0.mk (new_apart HF6.out.lt hPX20)
      have D_F7_X20 := Aside0.mk (new_apart HF7.out.lt hPX20)
      have D_F8_X20 := Aside0.mk (new_apart HF8.out.lt hPX20)
      have D_F9_X20 := Aside0.mk (new_apart HF9.out.lt hPX20)
      have D_X10_X20 := Aside0.mk (new_apart HX10.out.lt hPX20)
      have D_F11_X20 := Aside0.mk (new_apart HF11.out.lt hPX20)
      replace HF1 := Aside0.mk (HF1.out.step hk no_S)
      replace HF2 := Aside0.mk (HF2.out.step hk no_S)
      replace HF3 := Aside0.mk (HF3.out.step hk no_S)
      replace HF4 := Aside0.mk (HF4.out.step hk no_S)
      replace HX5 := Aside0.mk (HX5.out.step hk no_S)
      replace HF6 := Aside0.mk (HF6.out.step hk no_S)
      replace HF7 := Aside0.mk (HF7.out.step hk no_S)
      replace HF8 := Aside0.mk (HF8.out.step hk no_S)
      replace HF9 := Aside0.mk (HF9.out.step hk no_S)
      replace HX10 := Aside0.mk (HX10.out.step hk no_S)
      replace HF11 := Aside0.mk (HF11.out.step hk no_S)
      replace HB := Aside0.mk (below_step HB.out hb)
      clear hb hk hbox hg hPX20
      (try clear hxX5_0 hfX5_0 hxX5_1 hfX5_1)
      have hxX5_0 := (HX5.out.cell 0).trans (show _ = some (.slice BF3 s.length DF3) from rfl)
      have hfX5_0 := HX5.out.frozen 0
      have hxX5_1 := (HX5.out.cell 1).trans (show _ = some (.slice BF4 q.length DF4) from rfl)
      have hfX5_1 := HX5.out.frozen 1
      (try clear hxX20_0 hfX20_0 hxX20_1 hfX20_1)
      have hxX20_0 := (HX20.out.cell 0).trans (show _ = some (.slice none 0 0) from rfl)
      have hfX20_0 := HX20.out.frozen 0
      have hxX20_1 := (HX20.out.cell 1).trans (show _ = some (.slice none 0 0) from rfl)
      have hfX20_1 := HX20.out.frozen 1
      refine hK.out _ _ ⟨hxX5_0, hxX5_1⟩ (fun hHeld => ?_)
      clear hK K
      refine norm_ (a' := ?_) ?_ ?_
      rotate_left
      · show Act.put _ (some 13) _ = _
        simp only [Act.put, List.setIfInBounds_toArray, List.set_cons_zero, List.set_cons_succ, i64_w, i32_w]
        rfl
      refine one_ (i := 4) (N := some 74) #[true, true, true, true, true, false, false, false, false, true, false, false] rfl rfl (one_of HT_.out (by kernel_rfl)) (by decide) (fun K hK => ?_)
      refine goes_ Try.func34 (by kernel_rfl) rfl #[.slice A1 l1.length c1, .int .i64 1, .int .i64 9] (by rfl) rfl rfl (by (try simp only [List.map_toArray, List.map_cons, List.map_nil]); first | done | rfl | (simp only [List.length_drop, List.length_take]; rfl)) ?_
      (with_reducible refine (laws_at.calls _ _ l1 1 9 a2 _ (Kd.C_below HR1.out HB.out) HL1.out E8.out).mono ?_)
      rintro e w2 ⟨rfl, hq⟩
      refine ⟨_, rfl, ?_⟩
      have hk := kept_drawn hq
      replace HF1 := Aside0.mk (HF1.out.step hk no_S)
      replace HF2 := Aside0.mk (HF2.out.step hk no_S)
      replace HF3 := Aside0.mk (HF3.out.step hk no_S)
      replace HF4 := Aside0.mk (HF4.out.step hk no_S)
      replace HX5 := Aside0.mk (HX5.out.step hk no_S)
      replace HF6 := Aside0.mk (HF6.out.step hk no_S)
      replace HF7 := Aside0.mk (HF7.out.step hk no_S)
      replace HF8 := Aside0.mk (HF8.out.step hk no_S)
      replace HF9 := Aside0.mk (HF9.out.step hk no_S)
      replace HX10 := Aside0.mk (HX10.out.step hk no_S)
      replace HF11 := Aside0.mk (HF11.out.step hk no_S)
      replace HX20 := Aside0.mk (HX20.out.step hk no_S)
      replace HB := Aside0.mk (below_drawn HB.out hq)
      clear hk hq
      (try clear hxX5_0 hfX5_0 hxX5_1 hfX5_1)
      have hxX5_0 := (HX5.out.cell 0).trans (show _ = some (.slice BF3 s.length DF3) from rfl)
      have hfX5_0 := HX5.out.frozen 0
      have hxX5_1 := (HX5.out.cell 1).trans (show _ = some (.slice BF4 q.length DF4) from rfl)
      have hfX5_1 := HX5.out.frozen 1
      (try clear hxX20_0 hfX20_0 hxX20_1 hfX20_1)
      have hxX20_0 := (HX20.out.cell 0).trans (show _ = some (.slice none 0 0) from rfl)
      have hfX20_0 := HX20.out.frozen 0
      have hxX20_1 := (HX20.out.cell 1).trans (show _ = some (.slice none 0 0) from rfl)
      have hfX20_1 := HX20.out.frozen 1
      refine hK.out _ _ ⟨hxX5_0, hxX5_1⟩ (fun hHeld => ?_)
      clear hK K
      refine norm_ (a' := ?_) ?_ ?_
      rotate_left
      · show Act.put _ (some 74) _ = _
        simp only [Act.put, List.setIfInBounds_toArray, List.set_cons_zero, List.set_cons_succ, i64_w, i32_w]
        rfl
      refine one_ (i := 5) (N := some 75) #[true, true, true, true, true, true, false, false, false, true, false, false] rfl rfl (one_of HT_.out (by kernel_rfl)) (by decide) (fun K hK => ?_)
      refine goes_ Try.func27 (by kernel_rfl) rfl #[.agg #[.slice BF3 s.length DF3, .slice BF4 q.length DF4], .int .i64 a1, .int .i64 a2] (by rfl) rfl rfl (by (try simp only [List.map_toArray, List.map_cons, List.map_nil]); first | done | rfl | (simp only [List.length_drop, List.length_take]; rfl)) ?_
      (with_reducible refine (impl_DiskCrash.calls k _ _ s _ _ q a1 a2 d q2 0 _ HF3.out.reads HF3.out.room HF4.out.reads HF4.out.room E9.out).mono ?_)
      rintro e w2 ⟨vF21, vF22, rfl, hrF21, hrF22, hb⟩
      refine ⟨_, rfl, ?_⟩
      have hk := kept_below hb
      obtain ⟨PF21, hPF21, HLF21⟩ := LR.fresh rfl HB.out hrF21
      have HF21 := Aside0.mk HLF21
      clear HLF21 hrF21
      have D_F1_F21 := Aside0.mk (new_apart HF1.out.lt hPF21)
      have D_F2_F21 := Aside0.mk (new_apart HF2.out.lt hPF21)
      have D_F3_F21 := Aside0.mk (new_apart HF3.out.lt hPF21)
      have D_F4_F21 := Aside0.mk (new_apart HF4.out.lt hPF21)
      have D_X5_F21 := Aside0.mk (new_apart HX5.out.lt hPF21)
      have D_F6_F21 := Aside0.mk (new_apart HF6.out.lt hPF21)
      have D_F7_F21 := Aside0.mk (new_apart HF7.out.lt hPF21)
      have D_F8_F21 := Aside0.mk (new_apart HF8.out.lt hPF21)
      have D_F9_F21 := Aside0.mk (new_apart HF9.out.lt hPF21)
      have D_X10_F21 := Aside0.mk (new_apart HX10.out.lt hPF21)
      have D_F11_F21 := Aside0.mk (new_apart HF11.out.lt hPF21)
      have D_X20_F21 := Aside0.mk (new_apart HX20.out.lt hPF21)
      obtain ⟨PF22, hPF22, HLF22⟩ := LS.fresh HB.out hrF22
      have HF22 := Aside0.mk HLF22
      clear HLF22 hrF22
      have D_F1_F22 := Aside0.mk (new_apart HF1.out.lt hPF22)
      have D_F2_F22 := Aside0.mk (new_apart HF2.out.lt hPF22)
      have D_F3_F22 := Aside0.mk (new_apart HF3.out.lt hPF22)
      have D_F4_F22 := Aside0.mk (new_apart HF4.out.lt hPF22)
      have D_X5_F22 := Aside0.mk (new_apart HX5.out.lt hPF22)
      have D_F6_F22 := Aside0.mk (new_apart HF6.out.lt hPF22)
      have D_F7_F22 := Aside0.mk (new_apart HF7.out.lt hPF22)
      have D_F8_F22 := Aside0.mk (new_apart HF8.out.lt hPF22)
      have D_F9_F22 := Aside0.mk (new_apart HF9.out.lt hPF22)
      have D_X10_F22 := Aside0.mk (new_apart HX10.out.lt hPF22)
      have D_F11_F22 := Aside0.mk (new_apart HF11.out.lt hPF22)
      have D_X20_F22 := Aside0.mk (new_apart HX20.out.lt hPF22)
      have D_F21_F22 := Aside0.mk (show ∀ k_, PF21 k_ → ¬ PF22 k_ from fun k_ h1_ h2_ => by have a1_ := hPF21 k_ h1_; have a2_ := hPF22 k_ h2_; simp_all)
      replace HF1 := Aside0.mk (HF1.out.step hk no_S)
      replace HF2 := Aside0.mk (HF2.out.step hk no_S)
      replace HF3 := Aside0.mk (HF3.out.step hk no_S)
      replace HF4 := Aside0.mk (HF4.out.step hk no_S)
      replace HX5 := Aside0.mk (HX5.out.step hk no_S)
      replace HF6 := Aside0.mk (HF6.out.step hk no_S)
      replace HF7 := Aside0.mk (HF7.out.step hk no_S)
      replace HF8 := Aside0.mk (HF8.out.step hk no_S)
      replace HF9 := Aside0.mk (HF9.out.step hk no_S)
      replace HX10 := Aside0.mk (HX10.out.step hk no_S)
      replace HF11 := Aside0.mk (HF11.out.step hk no_S)
      replace HX20 := Aside0.mk (HX20.out.step hk no_S)
      clear hPF21
      obtain ⟨BF21, DF21, e_F21⟩ := HF21.out.val
      subst e_F21
      clear hPF22
      obtain ⟨BF22, DF22, e_F22⟩ := HF22.out.val
      subst e_F22
      replace HB := Aside0.mk (below_step HB.out hb)
      clear hb hk
      (try clear hxX5_0 hfX5_0 hxX5_1 hfX5_1)
      have hxX5_0 := (HX5.out.cell 0).trans (show _ = some (.slice BF3 s.length DF3) from rfl)
      have hfX5_0 := HX5.out.frozen 0
      have hxX5_1 := (HX5.out.cell 1).trans (show _ = some (.slice BF4 q.length DF4) from rfl)
      have hfX5_1 := HX5.out.frozen 1
      (try clear hxX20_0 hfX20_0 hxX20_1 hfX20_1)
      have hxX20_0 := (HX20.out.cell 0).trans (show _ = some (.slice none 0 0) from rfl)
      have hfX20_0 := HX20.out.frozen 0
      have hxX20_1 := (HX20.out.cell 1).trans (show _ = some (.slice none 0 0) from rfl)
      have hfX20_1 := HX20.out.frozen 1
      refine hK.out _ _ ⟨hxX5_0, hxX5_1⟩ (fun hHeld => ?_)
      clear hK K
      refine norm_ (a' := ?_) ?_ ?_
      rotate_left
      · show Act.put _ (some 75) _ = _
        simp only [Act.put, List.setIfInBounds_toArray, List.set_cons_zero, List.set_cons_succ, i64_w, i32_w]
        rfl
      refine pure_ (i := 6) (N := some 69) (v := ?_) (a' := ?_) #[true, true, true, true, true, true, true, false, false, true, false, false] rfl rfl (any_of HT_.out (by kernel_rfl)) (fun _ _ _ h => h) (Or.inl ⟨by rfl, ?_⟩) ?_ ?_
      rotate_left
      · intro w'
        go_simp
        with_reducible rfl
      rotate_left
      · simp only [Act.put, List.setIfInBounds_toArray, List.set_cons_zero, List.set_cons_succ, i64_w, i32_w]
        rfl
      refine pure_ (i := 7) (N := some 76) (v := ?_) (a' := ?_) #[true, true, true, true, true, true, true, true, false, true, false, false] rfl rfl (any_of HT_.out (by kernel_rfl)) (fun _ _ _ h => h) (Or.inl ⟨by rfl, ?_⟩) ?_ ?_
      rotate_left
      · intro w'
        go_simp
        with_reducible rfl
      rotate_left
      · simp only [Act.put, List.setIfInBounds_toArray, List.set_cons_zero, List.set_cons_succ, i64_w, i32_w]
        rfl
      refine pure_ (i := 8) (N := some 77) (v := ?_) (a' := ?_) #[true, true, true, true, true, true, true, true, true, true, false, false] rfl rfl (any_of HT_.out (by kernel_rfl)) (fun _ _ _ h => h) (Or.inl ⟨by rfl, ?_⟩) ?_ ?_
      rotate_left
      · intro w'
        go_simp
        with_reducible rfl
      rotate_left
      · simp only [Act.put, List.setIfInBounds_toArray, List.set_cons_zero, List.set_cons_succ, i64_w, i32_w]
        rfl
      refine one_ (i := 10) (N := none) #[true, true, true, true, true, true, true, true, true, true, true, false] rfl rfl (one_of HT_.out (by kernel_rfl)) (by decide) (fun K hK => ?_)
      refine LB.stored_step HX20.out HB.out GEX20.out 0 [.slice BF21 d.length DF21, .slice BF22 q2.length DF22] (by rfl) rfl ?hr_10 ?_
      (case hr_10 => first | (go_simp; done) | (go_simp; rfl))
      intro w2 hx hk hb
      replace HF1 := Aside0.mk (HF1.out.step hk D_F1_X20.out)
      replace HF2 := Aside0.mk (HF2.out.step hk D_F2_X20.out)
      replace HF3 := Aside0.mk (HF3.out.step hk D_F3_X20.out)
      replace HF4 := Aside0.mk (HF4.out.step hk D_F4_X20.out)
      replace HX5 := Aside0.mk (HX5.out.step hk D_X5_X20.out)
      replace HF6 := Aside0.mk (HF6.out.step hk D_F6_X20.out)
      replace HF7 := Aside0.mk (HF7.out.step hk D_F7_X20.out)
      replace HF8 := Aside0.mk (HF8.out.step hk D_F8_X20.out)
      replace HF9 := Aside0.mk (HF9.out.step hk D_F9_X20.out)
      replace HX10 := Aside0.mk (HX10.out.step hk D_X10_X20.out)
      replace HF11 := Aside0.mk (HF11.out.step hk D_F11_X20.out)
      replace HF21 := Aside0.mk (HF21.out.step hk (apart_symm D_X20_F21.out))
      replace HF22 := Aside0.mk (HF22.out.step hk (apart_symm D_X20_F22.out))
      replace HB := Aside0.mk hb
      replace HX20 := Aside0.mk (show LB w2 PX20 gX20 29 #[.slice BF21 d.length DF21, .slice BF22 q2.length DF22] from hx)
      clear hk hx hb
      (try clear hxX5_0 hfX5_0 hxX5_1 hfX5_1)
      have hxX5_0 := (HX5.out.cell 0).trans (show _ = some (.slice BF3 s.length DF3) from rfl)
      have hfX5_0 := HX5.out.frozen 0
      have hxX5_1 := (HX5.out.cell 1).trans (show _ = some (.slice BF4 q.length DF4) from rfl)
      have hfX5_1 := HX5.out.frozen 1
      (try clear hxX20_0 hfX20_0 hxX20_1 hfX20_1)
      have hxX20_0 := (HX20.out.cell 0).trans (show _ = some (.slice BF21 d.length DF21) from rfl)
      have hfX20_0 := HX20.out.frozen 0
      have hxX20_1 := (HX20.out.cell 1).trans (show _ = some (.slice BF22 q2.length DF22) from rfl)
      have hfX20_1 := HX20.out.frozen 1
      refine hK.out _ _ ⟨hxX5_0, hxX5_1⟩ (fun hHeld => ?_)
      clear hK K
      refine pure_ (i := 11) (N := some 14) (v := ?_) (a' := ?_) #[true, true, true, true, true, true, true, true, true, true, true, true] rfl rfl (any_of HT_.out (by kernel_rfl)) (fun _ _ _ h => h) (Or.inl ⟨by rfl, ?_⟩) ?_ ?_
      rotate_left
      · intro w'
        go_simp
        with_reducible rfl
      rotate_left
      · simp only [Act.put, List.setIfInBounds_toArray, List.set_cons_zero, List.set_cons_succ, i64_w, i32_w]
        rfl
      refine done_ (done_of HT_.out (by kernel_rfl)) ?_
      go_upto_region 12 with (first | ((with_reducible refine gate_callee (f := 13) rfl ?_); refine goesL_ (some 80) rfl rfl Try.func13 (by kernel_rfl) rfl #[.agg #[.slice BF21 d.length DF21, .slice BF22 q2.length DF22]] rfl (by (try simp only [List.map_toArray, List.map_cons, List.map_nil]); first | done | rfl | (simp only [List.length_drop, List.length_take]; rfl)) ?_; (with_reducible refine (impl_DiskBytes.calls k _ _ d _ _ q2 b2 0 _ HF21.out.reads HF21.out.room HF22.out.reads HF22.out.room E10.out).mono ?_); rintro e w2 ⟨vF23, rfl, hrF23, hb⟩; refine ⟨_, rfl, ?_⟩; have hk := kept_below hb; obtain ⟨PF23, hPF23, HLF23⟩ := LR.fresh rfl HB.out hrF23; have HF23 := Aside0.mk HLF23; clear HLF23 hrF23; have D_F1_F23 := Aside0.mk (new_apart HF1.out.lt hPF23); have D_F2_F23 := Aside0.mk (new_apart HF2.out.lt hPF23); have D_F3_F23 := Aside0.mk (new_apart HF3.out.lt hPF23); have D_F4_F23 := Aside0.mk (new_apart HF4.out.lt hPF23); have D_X5_F23 := Aside0.mk (new_apart HX5.out.lt hPF23); have D_F6_F23 := Aside0.mk (new_apart HF6.out.lt hPF23); have D_F7_F23 := Aside0.mk (new_apart HF7.out.lt hPF23); have D_F8_F23 := Aside0.mk (new_apart HF8.out.lt hPF23); have D_F9_F23 := Aside0.mk (new_apart HF9.out.lt hPF23); have D_X10_F23 := Aside0.mk (new_apart HX10.out.lt hPF23); have D_F11_F23 := Aside0.mk (new_apart HF11.out.lt hPF23); have D_X20_F23 := Aside0.mk (new_apart HX20.out.lt hPF23); have D_F21_F23 := Aside0.mk (new_apart HF21.out.lt hPF23); have D_F22_F23 := Aside0.mk (new_apart HF22.out.lt hPF23); replace HF1 := Aside0.mk (HF1.out.step hk no_S); replace HF2 := Aside0.mk (HF2.out.step hk no_S); replace HF3 := Aside0.mk (HF3.out.step hk no_S); replace HF4 := Aside0.mk (HF4.out.step hk no_S); replace HX5 := Aside0.mk (HX5.out.step hk no_S); replace HF6 := Aside0.mk (HF6.out.step hk no_S); replace HF7 := Aside0.mk (HF7.out.step hk no_S); replace HF8 := Aside0.mk (HF8.out.step hk no_S); replace HF9 := Aside0.mk (HF9.out.step hk no_S); replace HX10 := Aside0.mk (HX10.out.step hk no_S); replace HF11 := Aside0.mk (HF11.out.step hk no_S); replace HX20 := Aside0.mk (HX20.out.step hk no_S); replace HF21 := Aside0.mk (HF21.out.step hk no_S); replace HF22 := Aside0.mk (HF22.out.step hk no_S); clear hPF23; obtain ⟨BF23, DF23, e_F23⟩ := HF23.out.val; subst e_F23; replace HB := Aside0.mk (below_step HB.out hb); clear hb hk; (try clear hxX5_0 hfX5_0 hxX5_1 hfX5_1); have hxX5_0 := (HX5.out.cell 0).trans (show _ = some (.slice BF3 s.length DF3) from rfl); have hfX5_0 := HX5.out.frozen 0; have hxX5_1 := (HX5.out.cell 1).trans (show _ = some (.slice BF4 q.length DF4) from rfl); have hfX5_1 := HX5.out.frozen 1; (try clear hxX20_0 hfX20_0 hxX20_1 hfX20_1); have hxX20_0 := (HX20.out.cell 0).trans (show _ = some (.slice BF21 d.length DF21) from rfl); have hfX20_0 := HX20.out.frozen 0; have hxX20_1 := (HX20.out.cell 1).trans (show _ = some (.slice BF22 q2.length DF22) from rfl); have hfX20_1 := HX20.out.frozen 1))
      obtain ⟨i01, hi01, _, hsz1, _⟩ := info_parts info5
      obtain ⟨hlc1, hcut1, hC1⟩ := cut_take (d := (Kd.int .u8)) (P := Try.prog) 22 5 .i64 Try.underlying22 hi01 BF11 DF11 (b2.length : Int) b3 NB3.out HF11.out.room (by omega) GLE.out
      have hcv3 := fun m_ : Nat => Kd.C_string (P := Try.prog) (w := w2.drewN m_) (A := BF11) (c := DF11) Try.underlying22 Try.underlying5 Try.underlying9 (Kd.C_drewN (hC1 _ HF11.out.reads) m_)
      have hcv4 := fun m_ : Nat => Kd.C_string (P := Try.prog) (w := w2.drewN m_) (A := BF23) (c := DF23) Try.underlying22 Try.underlying5 Try.underlying9 (Kd.C_drewN HF23.out.reads m_)
      clear hlc1 hC1 hi01 hsz1
      refine start_ (n := 24) (S := fun w' => w'.cell? ⟨gX5, 0, none⟩ = some (.slice BF3 s.length DF3) ∧ (convert 22 9 (.slice BF11 b3.length DF11)).run Try.prog w' = .ok (.string (strOfNums b3)) w' ∧ (convert 22 9 (.slice BF23 b2.length DF23)).run Try.prog w' = .ok (.string (strOfNums b2)) w') (ds := []) #[false, false, false, false, false, false, false, false, false, false, false, false, false, false, false, false, false, false, false, false, false, false, false, false] (by kernel_rfl) rfl rfl ⟨hxX5_0, hcv3 1, hcv4 1⟩ (fun hHeld => ?_)
      refine with_tabW laws_FnDisk.tab12 laws_FnDisk.bits12 (fun HT_ HW_ => ?_)
      generalize hwd_ : World.drew w2 = wd_ at hHeld ⊢
      have hk := kept_drew hwd_
      replace HF1 := Aside0.mk (HF1.out.step hk no_S)
      replace HF2 := Aside0.mk (HF2.out.step hk no_S)
      replace HF3 := Aside0.mk (HF3.out.step hk no_S)
      replace HF4 := Aside0.mk (HF4.out.step hk no_S)
      replace HX5 := Aside0.mk (HX5.out.step hk no_S)
      replace HF6 := Aside0.mk (HF6.out.step hk no_S)
      replace HF7 := Aside0.mk (HF7.out.step hk no_S)
      replace HF8 := Aside0.mk (HF8.out.step hk no_S)
      replace HF9 := Aside0.mk (HF9.out.step hk no_S)
      replace HX10 := Aside0.mk (HX10.out.step hk no_S)
      replace HF11 := Aside0.mk (HF11.out.step hk no_S)
      replace HX20 := Aside0.mk (HX20.out.step hk no_S)
      replace HF21 := Aside0.mk (HF21.out.step hk no_S)
      replace HF22 := Aside0.mk (HF22.out.step hk no_S)
      replace HF23 := Aside0.mk (HF23.out.step hk no_S)
      replace HB := Aside0.mk (below_drewd HB.out hwd_)
      clear hk hwd_
      (try clear hxX5_0 hfX5_0 hxX5_1 hfX5_1)
      have hxX5_0 := (HX5.out.cell 0).trans (show _ = some (.slice BF3 s.length DF3) from rfl)
      have hfX5_0 := HX5.out.frozen 0
      have hxX5_1 := (HX5.out.cell 1).trans (show _ = some (.slice BF4 q.length DF4) from rfl)
      have hfX5_1 := HX5.out.frozen 1
      (try clear hxX20_0 hfX20_0 hxX20_1 hfX20_1)
      have hxX20_0 := (HX20.out.cell 0).trans (show _ = some (.slice BF21 d.length DF21) from rfl)
      have hfX20_0 := HX20.out.frozen 0
      have hxX20_1 := (HX20.out.cell 1).trans (show _ = some (.slice BF22 q2.length DF22) from rfl)
      have hfX20_1 := HX20.out.frozen 1
      refine pure_ (i := 0) (N := some 99) (v := ?_) (a' := ?_) #[true, false, false, false, false, false, false, false, false, false, false, false, false, false, false, false, false, false, false, false, false, false, false, false] rfl rfl (any_of HT_.out (by kernel_rfl)) (fun _ _ _ h => h) (Or.inl ⟨by rfl, ?_⟩) ?_ ?_
      rotate_left
      · intro w'
        go_simp
        with_reducible rfl
      rotate_left
      · simp only [Act.put, List.setIfInBounds_toArray, List.set_cons_zero, List.set_cons_succ, i64_w, i32_w]
        rfl
      refine pure_ (i := 1) (N := some 100) (v := ?_) (a' := ?_) #[true, true, false, false, false, false, false, false, false, false, false, false, false, false, false, false, false, false, false, false, false, false, false, false] rfl rfl (any_of HT_.out (by kernel_rfl)) (fun _ _ _ h => h) (Or.inl ⟨by rfl, ?_⟩) ?_ ?_
      rotate_left
      · intro w'
        go_simp
        with_reducible rfl
      rotate_left
      · simp only [Act.put, List.setIfInBounds_toArray, List.set_cons_zero, List.set_cons_succ, i64_w, i32_w]
        rfl
      refine pure_ (i := 2) (N := some 101) (v := ?_) (a' := ?_) #[true, true, true, false, false, false, false, false, false, false, false, false, false, false, false, false, false, false, false, false, false, false, false, false] rfl rfl (any_of HT_.out (by kernel_rfl)) (fun _ _ _ h => h) (Or.inl ⟨by rfl, ?_⟩) ?_ ?_
      rotate_left
      · intro w'
        go_simp
        with_reducible rfl
      rotate_left
      · simp only [Act.put, List.setIfInBounds_toArray, List.set_cons_zero, List.set_cons_succ, i64_w, i32_w]
        rfl
      refine pure_ (i := 3) (N := some 102) (v := ?_) (a' := ?_) #[true, true, true, true, false, false, false, false, false, false, false, false, false, false, false, false, false, false, false, false, false, false, false, false] rfl rfl (any_of HT_.out (by kernel_rfl)) (fun _ _ _ h => h) (Or.inl ⟨by rfl, ?_⟩) ?_ ?_
      rotate_left
      · intro w'
        go_simp
        with_reducible rfl
      rotate_left
      · simp only [Act.put, List.setIfInBounds_toArray, List.set_cons_zero, List.set_cons_succ, i64_w, i32_w]
        rfl
      refine pure_ (i := 4) (N := some 103) (v := ?_) (a' := ?_) #[true, true, true, true, true, false, false, false, false, false, false, false, false, false, false, false, false, false, false, false, false, false, false, false] rfl rfl (any_of HT_.out (by kernel_rfl)) (fun _ _ _ h => h) (Or.inl ⟨by rfl, ?_⟩) ?_ ?_
      rotate_left
      · intro w'
        go_simp
        (try rw [gl2])
        with_reducible rfl
      rotate_left
      · simp only [Act.put, List.setIfInBounds_toArray, List.set_cons_zero, List.set_cons_succ, i64_w, i32_w]
        rfl
      refine pure_ (i := 5) (N := some 104) (v := ?_) (a' := ?_) #[true, true, true, true, true, true, false, false, false, false, false, false, false, false, false, false, false, false, false, false, false, false, false, false] rfl rfl (any_of HT_.out (by kernel_rfl)) (fun _ _ _ h => h) (Or.inl ⟨by rfl, ?_⟩) ?_ ?_
      rotate_left
      · intro w'
        go_simp
        with_reducible rfl
      rotate_left
      · simp only [Act.put, List.setIfInBounds_toArray, List.set_cons_zero, List.set_cons_succ, i64_w, i32_w]
        rfl
      refine pure_ (i := 6) (N := some 105) (v := ?_) (a' := ?_) #[true, true, true, true, true, true, true, false, false, false, false, false, false, false, false, false, false, false, false, false, false, false, false, false] rfl rfl (any_of HT_.out (by kernel_rfl)) (fun _ _ _ h => h) (Or.inl ⟨by rfl, ?_⟩) ?_ ?_
      rotate_left
      · intro w'
        go_simp
        with_reducible rfl
      rotate_left
      · simp only [Act.put, List.setIfInBounds_toArray, List.set_cons_zero, List.set_cons_succ, i64_w, i32_w]
        rfl
      refine pure_ (i := 7) (N := some 106) (v := ?_) (a' := ?_) #[true, true, true, true, true, true, true, true, false, false, false, false, false, false, false, false, false, false, false, false, false, false, false, false] rfl rfl (any_of HT_.out (by kernel_rfl)) (fun _ _ _ h => h) (Or.inl ⟨by rfl, ?_⟩) ?_ ?_
      rotate_left
      · intro w'
        go_simp
        with_reducible rfl
      rotate_left
      · simp only [Act.put, List.setIfInBounds_toArray, List.set_cons_zero, List.set_cons_succ, i64_w, i32_w]
        rfl
      refine pure_ (i := 8) (N := some 107) (v := ?_) (a' := ?_) #[true, true, true, true, true, true, true, true, true, false, false, false, false, false, false, false, false, false, false, false, false, false, false, false] rfl rfl (any_of HT_.out (by kernel_rfl)) (fun _ _ _ h => h) (Or.inl ⟨by rfl, ?_⟩) ?_ ?_
      rotate_left
      · intro w'
        go_simp
        with_reducible rfl
      rotate_left
      · simp only [Act.put, List.setIfInBounds_toArray, List.set_cons_zero, List.set_cons_succ, i64_w, i32_w]
        rfl
      refine pure_ (i := 9) (N := some 108) (v := ?_) (a' := ?_) #[true, true, true, true, true, true, true, true, true, true, false, false, false, false, false, false, false, false, false, false, false, false, false, false] rfl rfl (any_of HT_.out (by kernel_rfl)) (fun _ _ _ h => h) (Or.inl ⟨by rfl, ?_⟩) ?_ ?_
      rotate_left
      · intro w'
        go_simp
        with_reducible rfl
      rotate_left
      · simp only [Act.put, List.setIfInBounds_toArray, List.set_cons_zero, List.set_cons_succ, i64_w, i32_w]
        rfl
      refine take_ (i := 10) (N := some 109) (v := ?_) (a' := ?_) #[true, true, true, true, true, true, true, true, true, true, true, false, false, false, false, false, false, false, false, false, false, false, false, false] rfl rfl (take_ofW HT_.out HW_.out (by kernel_rfl)) (fun _ _ _ h => h) (Or.inl ⟨by rfl, ?_⟩) hHeld ?_ ?_
      rotate_left
      · rintro w' ⟨s0, s1, s2⟩
        go_simp
        with_reducible rfl
      rotate_left
      · simp only [Act.put, List.setIfInBounds_toArray, List.set_cons_zero, List.set_cons_succ, i64_w, i32_w]
        rfl
      refine pure_ (i := 11) (N := some 110) (v := ?_) (a' := ?_) #[true, true, true, true, true, true, true, true, true, true, true, true, false, false, false, false, false, false, false, false, false, false, false, false] rfl rfl (any_of HT_.out (by kernel_rfl)) (fun _ _ _ h => h) (Or.inl ⟨by rfl, ?_⟩) ?_ ?_
      rotate_left
      · intro w'
        go_simp
        with_reducible rfl
      rotate_left
      · simp only [Act.put, List.setIfInBounds_toArray, List.set_cons_zero, List.set_cons_succ, i64_w, i32_w]
        rfl
      refine take_ (i := 12) (N := some 111) (v := ?_) (a' := ?_) #[true, true, true, true, true, true, true, true, true, true, true, true, true, false, false, false, false, false, false, false, false, false, false, false] rfl rfl (take_ofW HT_.out HW_.out (by kernel_rfl)) (fun _ _ _ h => h) (Or.inl ⟨by rfl, ?_⟩) hHeld ?_ ?_
      rotate_left
      · rintro w' ⟨s0, s1, s2⟩
        go_simp
        with_reducible rfl
      rotate_left
      · simp only [Act.put, List.setIfInBounds_toArray, List.set_cons_zero, List.set_cons_succ, i64_w, i32_w]
        rfl
      refine pure_ (i := 13) (N := some 112) (v := ?_) (a' := ?_) #[true, true, true, true, true, true, true, true, true, true, true, true, true, true, false, false, false, false, false, false, false, false, false, false] rfl rfl (any_of HT_.out (by kernel_rfl)) (fun _ _ _ h => h) (Or.inl ⟨by rfl, ?_⟩) ?_ ?_
      rotate_left
      · intro w'
        go_simp
        (try rw [gt])
        with_reducible rfl
      rotate_left
      · simp only [Act.put, List.setIfInBounds_toArray, List.set_cons_zero, List.set_cons_succ, i64_w, i32_w]
        rfl
      refine pure_ (i := 14) (N := some 113) (v := ?_) (a' := ?_) #[true, true, true, true, true, true, true, true, true, true, true, true, true, true, true, false, false, false, false, false, false, false, false, false] rfl rfl (any_of HT_.out (by kernel_rfl)) (fun _ _ _ h => h) (Or.inl ⟨by rfl, ?_⟩) ?_ ?_
      rotate_left
      · intro w'
        go_simp
        with_reducible rfl
      rotate_left
      · simp only [Act.put, List.setIfInBounds_toArray, List.set_cons_zero, List.set_cons_succ, i64_w, i32_w]
        rfl
      refine pure_ (i := 15) (N := some 114) (v := ?_) (a' := ?_) #[true, true, true, true, true, true, true, true, true, true, true, true, true, true, true, true, false, false, false, false, false, false, false, false] rfl rfl (any_of HT_.out (by kernel_rfl)) (fun _ _ _ h => h) (Or.inl ⟨by rfl, ?_⟩) ?_ ?_
      rotate_left
      · intro w'
        go_simp
        with_reducible rfl
      rotate_left
      · simp only [Act.put, List.setIfInBounds_toArray, List.set_cons_zero, List.set_cons_succ, i64_w, i32_w]
        rfl
      refine pure_ (i := 16) (N := some 115) (v := ?_) (a' := ?_) #[true, true, true, true, true, true, true, true, true, true, true, true, true, true, true, true, true, false, false, false, false, false, false, false] rfl rfl (any_of HT_.out (by kernel_rfl)) (fun _ _ _ h => h) (Or.inl ⟨by rfl, ?_⟩) ?_ ?_
      rotate_left
      · intro w'
        go_simp
        with_reducible rfl
      rotate_left
      · simp only [Act.put, List.setIfInBounds_toArray, List.set_cons_zero, List.set_cons_succ, i64_w, i32_w]
        rfl
      refine pure_ (i := 17) (N := some 116) (v := ?_) (a' := ?_) #[true, true, true, true, true, true, true, true, true, true, true, true, true, true, true, true, true, true, false, false, false, false, false, false] rfl rfl (any_of HT_.out (by kernel_rfl)) (fun _ _ _ h => h) (Or.inl ⟨by rfl, ?_⟩) ?_ ?_
      rotate_left
      · intro w'
        go_simp
        with_reducible rfl
      rotate_left
      · simp only [Act.put, List.setIfInBounds_toArray, List.set_cons_zero, List.set_cons_succ, i64_w, i32_w]
        rfl
      refine pure_ (i := 18) (N := some 117) (v := ?_) (a' := ?_) #[true, true, true, true, true, true, true, true, true, true, true, true, true, true, true, true, true, true, true, false, false, false, false, false] rfl rfl (any_of HT_.out (by kernel_rfl)) (fun _ _ _ h => h) (Or.inl ⟨by rfl, ?_⟩) ?_ ?_
      rotate_left
      · intro w'
        go_simp
        with_reducible rfl
      rotate_left
      · simp only [Act.put, List.setIfInBounds_toArray, List.set_cons_zero, List.set_cons_succ, i64_w, i32_w]
        rfl
      refine take_ (i := 19) (N := some 118) (v := ?_) (a' := ?_) #[true, true, true, true, true, true, true, true, true, true, true, true, true, true, true, true, true, true, true, true, false, false, false, false] rfl rfl (take_ofW HT_.out HW_.out (by kernel_rfl)) (fun _ _ _ h => h) (Or.inl ⟨by rfl, ?_⟩) hHeld ?_ ?_
      rotate_left
      · rintro w' ⟨s0, s1, s2⟩
        go_simp
        with_reducible rfl
      rotate_left
      · simp only [Act.put, List.setIfInBounds_toArray, List.set_cons_zero, List.set_cons_succ, i64_w, i32_w]
        rfl
      refine pure_ (i := 20) (N := some 119) (v := ?_) (a' := ?_) #[true, true, true, true, true, true, true, true, true, true, true, true, true, true, true, true, true, true, true, true, true, false, false, false] rfl rfl (any_of HT_.out (by kernel_rfl)) (fun _ _ _ h => h) (Or.inl ⟨by rfl, ?_⟩) ?_ ?_
      rotate_left
      · intro w'
        go_simp
        with_reducible rfl
      rotate_left
      · simp only [Act.put, List.setIfInBounds_toArray, List.set_cons_zero, List.set_cons_succ, i64_w, i32_w]
        rfl
      refine pure_ (i := 21) (N := some 120) (v := ?_) (a' := ?_) #[true, true, true, true, true, true, true, true, true, true, true, true, true, true, true, true, true, true, true, true, true, true, false, false] rfl rfl (any_of HT_.out (by kernel_rfl)) (fun _ _ _ h => h) (Or.inl ⟨by rfl, ?_⟩) ?_ ?_
      rotate_left
      · intro w'
        go_simp
        (try rw [gd2])
        with_reducible rfl
      rotate_left
      · simp only [Act.put, List.setIfInBounds_toArray, List.set_cons_zero, List.set_cons_succ, i64_w, i32_w]
        rfl
      refine pure_ (i := 22) (N := some 121) (v := ?_) (a' := ?_) #[true, true, true, true, true, true, true, true, true, true, true, true, true, true, true, true, true, true, true, true, true, true, true, false] rfl rfl (any_of HT_.out (by kernel_rfl)) (fun _ _ _ h => h) (Or.inl ⟨by rfl, ?_⟩) ?_ ?_
      rotate_left
      · intro w'
        go_simp
        with_reducible rfl
      rotate_left
      · simp only [Act.put, List.setIfInBounds_toArray, List.set_cons_zero, List.set_cons_succ, i64_w, i32_w]
        rfl
      refine pure_ (i := 23) (N := some 4) (v := ?_) (a' := ?_) #[true, true, true, true, true, true, true, true, true, true, true, true, true, true, true, true, true, true, true, true, true, true, true, true] rfl rfl (any_of HT_.out (by kernel_rfl)) (fun _ _ _ h => h) (Or.inl ⟨by rfl, ?_⟩) ?_ ?_
      rotate_left
      · intro w'
        go_simp
        with_reducible rfl
      rotate_left
      · simp only [Act.put, List.setIfInBounds_toArray, List.set_cons_zero, List.set_cons_succ, i64_w, i32_w]
        rfl
      refine done_ (done_of HT_.out (by kernel_rfl)) ?_
      go_wp2
      go_ret
      exact ⟨rfl, HB.out⟩
  · refine box_step ?hg_11 (N := 13) ?hd_11 (cs := #[.slice none 0 0, .slice none 0 0]) (t := 29) ?hr_11 ?_
    (case hd_11 => rfl)
    (case hg_11 => exact (by rfl))
    (case hr_11 => first | (go_simp; done) | (go_simp; rfl))
    intro gX24 hg w2 hbox hb
    have hk := kept_below hb
    obtain ⟨PX24, hPX24, HLX24⟩ := LB.fresh hg hbox
    have HX24 := Aside0.mk HLX24
    clear HLX24
    have GEX24 := Aside0.mk (show w.heap.size ≤ gX24 from (by rw [hg]; exact HB.out.size))
    have D_F1_X24 := Aside0.mk (new_apart HF1.out.lt hPX24)
    have D_F2_X24 := Aside0.mk (new_apart HF2.out.lt hPX24)
    have D_F3_X24 := Aside0.mk (new_apart HF3.out.lt hPX24)
    have D_F4_X24 := Aside0.mk (new_apart HF4.out.lt hPX24)
    have D_X5_X24 := Aside0.mk (new_apart HX5.out.lt hPX24)
    have D_F6_X24 := Aside0.mk (new_apart HF6.out.lt hPX24)
    have D_F7_X24 := Aside0.mk (new_apart HF7.out.lt hPX24)
    have D_F8_X24 := Aside0.mk (new_apart HF8.out.lt hPX24)
    have D_F9_X24 := Aside0.mk (new_apart HF9.out.lt hPX24)
    have D_X10_X24 := Aside0.mk (new_apart HX10.out.lt hPX24)
    have D_F11_X24 := Aside0.mk (new_apart HF11.out.lt hPX24)
    replace HF1 := Aside0.mk (HF1.out.step hk no_S)
    replace HF2 := Aside0.mk (HF2.out.step hk no_S)
    replace HF3 := Aside0.mk (HF3.out.step hk no_S)
    replace HF4 := Aside0.mk (HF4.out.step hk no_S)
    replace HX5 := Aside0.mk (HX5.out.step hk no_S)
    replace HF6 := Aside0.mk (HF6.out.step hk no_S)
    replace HF7 := Aside0.mk (HF7.out.step hk no_S)
    replace HF8 := Aside0.mk (HF8.out.step hk no_S)
    replace HF9 := Aside0.mk (HF9.out.step hk no_S)
    replace HX10 := Aside0.mk (HX10.out.step hk no_S)
    replace HF11 := Aside0.mk (HF11.out.step hk no_S)
    replace HB := Aside0.mk (below_step HB.out hb)
    clear hb hk hbox hg hPX24
    (try clear hxX5_0 hfX5_0 hxX5_1 hfX5_1)
    have hxX5_0 := (HX5.out.cell 0).trans (show _ = some (.slice BF3 s.length DF3) from rfl)
    have hfX5_0 := HX5.out.frozen 0
    have hxX5_1 := (HX5.out.cell 1).trans (show _ = some (.slice BF4 q.length DF4) from rfl)
    have hfX5_1 := HX5.out.frozen 1
    (try clear hxX24_0 hfX24_0 hxX24_1 hfX24_1)
    have hxX24_0 := (HX24.out.cell 0).trans (show _ = some (.slice none 0 0) from rfl)
    have hfX24_0 := HX24.out.frozen 0
    have hxX24_1 := (HX24.out.cell 1).trans (show _ = some (.slice none 0 0) from rfl)
    have hfX24_1 := HX24.out.frozen 1
    refine hK.out _ _ ⟨hxX5_0, hxX5_1⟩ (fun hHeld => ?_)
    clear hK K
    refine norm_ (a' := ?_) ?_ ?_
    rotate_left
    · show Act.put _ (some 13) _ = _
      simp only [Act.put, List.setIfInBounds_toArray, List.set_cons_zero, List.set_cons_succ, i64_w, i32_w]
      rfl
    refine one_ (i := 2) (N := some 72) #[true, true, true, true, false, false, false, false, false, true, false, false] rfl rfl (one_of HT_.out (by kernel_rfl)) (by decide) (fun K hK => ?_)
    refine goes_ Try.func34 (by kernel_rfl) rfl #[.slice A1 l1.length c1, .int .i64 0, .int .i64 5] (by rfl) rfl rfl (by (try simp only [List.map_toArray, List.map_cons, List.map_nil]); first | done | rfl | (simp only [List.length_drop, List.length_take]; rfl)) ?_
    (with_reducible refine (laws_at.calls _ _ l1 0 5 a1 _ (Kd.C_below HR1.out HB.out) HL1.out E7.out).mono ?_)
    rintro e w2 ⟨rfl, hq⟩
    refine ⟨_, rfl, ?_⟩
    have hk := kept_drawn hq
    replace HF1 := Aside0.mk (HF1.out.step hk no_S)
    replace HF2 := Aside0.mk (HF2.out.step hk no_S)
    replace HF3 := Aside0.mk (HF3.out.step hk no_S)
    replace HF4 := Aside0.mk (HF4.out.step hk no_S)
    replace HX5 := Aside0.mk (HX5.out.step hk no_S)
    replace HF6 := Aside0.mk (HF6.out.step hk no_S)
    replace HF7 := Aside0.mk (HF7.out.step hk no_S)
    replace HF8 := Aside0.mk (HF8.out.step hk no_S)
    replace HF9 := Aside0.mk (HF9.out.step hk no_S)
    replace HX10 := Aside0.mk (HX10.out.step hk no_S)
    replace HF11 := Aside0.mk (HF11.out.step hk no_S)
    replace HX24 := Aside0.mk (HX24.out.step hk no_S)
    replace HB := Aside0.mk (below_drawn HB.out hq)
    clear hk hq
    (try clear hxX5_0 hfX5_0 hxX5_1 hfX5_1)
    have hxX5_0 := (HX5.out.cell 0).trans (show _ = some (.slice BF3 s.length DF3) from rfl)
    have hfX5_0 := HX5.out.frozen 0
    have hxX5_1 := (HX5.out.cell 1).trans (show _ = some (.slice BF4 q.length DF4) from rfl)
    have hfX5_1 := HX5.out.frozen 1
    (try clear hxX24_0 hfX24_0 hxX24_1 hfX24_1)
    have hxX24_0 := (HX24.out.cell 0).trans (show _ = some (.slice none 0 0) from rfl)
    have hfX24_0 := HX24.out.frozen 0
    have hxX24_1 := (HX24.out.cell 1).trans (show _ = some (.slice none 0 0) from rfl)
    have hfX24_1 := HX24.out.frozen 1
    refine hK.out _ _ ⟨hxX5_0, hxX5_1⟩ (fun hHeld => ?_)
    clear hK K
    refine norm_ (a' := ?_) ?_ ?_
    rotate_left
    · show Act.put _ (some 72) _ = _
      simp only [Act.put, List.setIfInBounds_toArray, List.set_cons_zero, List.set_cons_succ, i64_w, i32_w]
      rfl
    refine one_ (i := 4) (N := some 74) #[true, true, true, true, true, false, false, false, false, true, false, false] rfl rfl (one_of HT_.out (by kernel_rfl)) (by decide) (fun K hK => ?_)
    refine goes_ Try.func34 (by kernel_rfl) rfl #[.slice A1 l1.length c1, .int .i64 1, .int .i64 9] (by rfl) rfl rfl (by (try simp only [List.map_toArray, List.map_cons, List.map_nil]); first | done | rfl | (simp only [List.length_drop, List.length_take]; rfl)) ?_
    (with_reducible refine (laws_at.calls _ _ l1 1 9 a2 _ (Kd.C_below HR1.out HB.out) HL1.out E8.out).mono ?_)
    rintro e w2 ⟨rfl, hq⟩
    refine ⟨_, rfl, ?_⟩
    have hk := kept_drawn hq
    replace HF1 := Aside0.mk (HF1.out.step hk no_S)
    replace HF2 := Aside0.mk (HF2.out.step hk no_S)
    replace HF3 := Aside0.mk (HF3.out.step hk no_S)
    replace HF4 := Aside0.mk (HF4.out.step hk no_S)
    replace HX5 := Aside0.mk (HX5.out.step hk no_S)
    replace HF6 := Aside0.mk (HF6.out.step hk no_S)
    replace HF7 := Aside0.mk (HF7.out.step hk no_S)
    replace HF8 := Aside0.mk (HF8.out.step hk no_S)
    replace HF9 := Aside0.mk (HF9.out.step hk no_S)
    replace HX10 := Aside0.mk (HX10.out.step hk no_S)
    replace HF11 := Aside0.mk (HF11.out.step hk no_S)
    replace HX24 := Aside0.mk (HX24.out.step hk no_S)
    replace HB := Aside0.mk (below_drawn HB.out hq)
    clear hk hq
    (try clear hxX5_0 hfX5_0 hxX5_1 hfX5_1)
    have hxX5_0 := (HX5.out.cell 0).trans (show _ = some (.slice BF3 s.length DF3) from rfl)
    have hfX5_0 := HX5.out.frozen 0
    have hxX5_1 := (HX5.out.cell 1).trans (show _ = some (.slice BF4 q.length DF4) from rfl)
    have hfX5_1 := HX5.out.frozen 1
    (try clear hxX24_0 hfX24_0 hxX24_1 hfX24_1)
    have hxX24_0 := (HX24.out.cell 0).trans (show _ = some (.slice none 0 0) from rfl)
    have hfX24_0 := HX24.out.frozen 0
    have hxX24_1 := (HX24.out.cell 1).trans (show _ = some (.slice none 0 0) from rfl)
    have hfX24_1 := HX24.out.frozen 1
    refine hK.out _ _ ⟨hxX5_0, hxX5_1⟩ (fun hHeld => ?_)
    clear hK K
    refine norm_ (a' := ?_) ?_ ?_
    rotate_left
    · show Act.put _ (some 74) _ = _
      simp only [Act.put, List.setIfInBounds_toArray, List.set_cons_zero, List.set_cons_succ, i64_w, i32_w]
      rfl
    refine one_ (i := 5) (N := some 75) #[true, true, true, true, true, true, false, false, false, true, false, false] rfl rfl (one_of HT_.out (by kernel_rfl)) (by decide) (fun K hK => ?_)
    refine goes_ Try.func27 (by kernel_rfl) rfl #[.agg #[.slice BF3 s.length DF3, .slice BF4 q.length DF4], .int .i64 a1, .int .i64 a2] (by rfl) rfl rfl (by (try simp only [List.map_toArray, List.map_cons, List.map_nil]); first | done | rfl | (simp only [List.length_drop, List.length_take]; rfl)) ?_
    (with_reducible refine (impl_DiskCrash.calls k _ _ s _ _ q a1 a2 d q2 0 _ HF3.out.reads HF3.out.room HF4.out.reads HF4.out.room E9.out).mono ?_)
    rintro e w2 ⟨vF25, vF26, rfl, hrF25, hrF26, hb⟩
    refine ⟨_, rfl, ?_⟩
    have hk := kept_below hb
    obtain ⟨PF25, hPF25, HLF25⟩ := LR.fresh rfl HB.out hrF25
    have HF25 := Aside0.mk HLF25
    clear HLF25 hrF25
    have D_F1_F25 := Aside0.mk (new_apart HF1.out.lt hPF25)
    have D_F2_F25 := Aside0.mk (new_apart HF2.out.lt hPF25)
    have D_F3_F25 := Aside0.mk (new_apart HF3.out.lt hPF25)
    have D_F4_F25 := Aside0.mk (new_apart HF4.out.lt hPF25)
    have D_X5_F25 := Aside0.mk (new_apart HX5.out.lt hPF25)
    have D_F6_F25 := Aside0.mk (new_apart HF6.out.lt hPF25)
    have D_F7_F25 := Aside0.mk (new_apart HF7.out.lt hPF25)
    have D_F8_F25 := Aside0.mk (new_apart HF8.out.lt hPF25)
    have D_F9_F25 := Aside0.mk (new_apart HF9.out.lt hPF25)
    have D_X10_F25 := Aside0.mk (new_apart HX10.out.lt hPF25)
    have D_F11_F25 := Aside0.mk (new_apart HF11.out.lt hPF25)
    have D_X24_F25 := Aside0.mk (new_apart HX24.out.lt hPF25)
    obtain ⟨PF26, hPF26, HLF26⟩ := LS.fresh HB.out hrF26
    have HF26 := Aside0.mk HLF26
    clear HLF26 hrF26
    have D_F1_F26 := Aside0.mk (new_apart HF1.out.lt hPF26)
    have D_F2_F26 := Aside0.mk (new_apart HF2.out.lt hPF26)
    have D_F3_F26 := Aside0.mk (new_apart HF3.out.lt hPF26)
    have D_F4_F26 := Aside0.mk (new_apart HF4.out.lt hPF26)
    have D_X5_F26 := Aside0.mk (new_apart HX5.out.lt hPF26)
    have D_F6_F26 := Aside0.mk (new_apart HF6.out.lt hPF26)
    have D_F7_F26 := Aside0.mk (new_apart HF7.out.lt hPF26)
    have D_F8_F26 := Aside0.mk (new_apart HF8.out.lt hPF26)
    have D_F9_F26 := Aside0.mk (new_apart HF9.out.lt hPF26)
    have D_X10_F26 := Aside0.mk (new_apart HX10.out.lt hPF26)
    have D_F11_F26 := Aside0.mk (new_apart HF11.out.lt hPF26)
    have D_X24_F26 := Aside0.mk (new_apart HX24.out.lt hPF26)
    have D_F25_F26 := Aside0.mk (show ∀ k_, PF25 k_ → ¬ PF26 k_ from fun k_ h1_ h2_ => by have a1_ := hPF25 k_ h1_; have a2_ := hPF26 k_ h2_; simp_all)
    replace HF1 := Aside0.mk (HF1.out.step hk no_S)
    replace HF2 := Aside0.mk (HF2.out.step hk no_S)
    replace HF3 := Aside0.mk (HF3.out.step hk no_S)
    replace HF4 := Aside0.mk (HF4.out.step hk no_S)
    replace HX5 := Aside0.mk (HX5.out.step hk no_S)
    replace HF6 := Aside0.mk (HF6.out.step hk no_S)
    replace HF7 := Aside0.mk (HF7.out.step hk no_S)
    replace HF8 := Aside0.mk (HF8.out.step hk no_S)
    replace HF9 := Aside0.mk (HF9.out.step hk no_S)
    replace HX10 := Aside0.mk (HX10.out.step hk no_S)
    replace HF11 := Aside0.mk (HF11.out.step hk no_S)
    replace HX24 := Aside0.mk (HX24.out.step hk no_S)
    clear hPF25
    obtain ⟨BF25, DF25, e_F25⟩ := HF25.out.val
    subst e_F25
    clear hPF26
    obtain ⟨BF26, DF26, e_F26⟩ := HF26.out.val
    subst e_F26
    replace HB := Aside0.mk (below_step HB.out hb)
    clear hb hk
    (try clear hxX5_0 hfX5_0 hxX5_1 hfX5_1)
    have hxX5_0 := (HX5.out.cell 0).trans (show _ = some (.slice BF3 s.length DF3) from rfl)
    have hfX5_0 := HX5.out.frozen 0
    have hxX5_1 := (HX5.out.cell 1).trans (show _ = some (.slice BF4 q.length DF4) from rfl)
    have hfX5_1 := HX5.out.frozen 1
    (try clear hxX24_0 hfX24_0 hxX24_1 hfX24_1)
    have hxX24_0 := (HX24.out.cell 0).trans (show _ = some (.slice none 0 0) from rfl)
    have hfX24_0 := HX24.out.frozen 0
    have hxX24_1 := (HX24.out.cell 1).trans (show _ = some (.slice none 0 0) from rfl)
    have hfX24_1 := HX24.out.frozen 1
    refine hK.out _ _ ⟨hxX5_0, hxX5_1⟩ (fun hHeld => ?_)
    clear hK K
    refine norm_ (a' := ?_) ?_ ?_
    rotate_left
    · show Act.put _ (some 75) _ = _
      simp only [Act.put, List.setIfInBounds_toArray, List.set_cons_zero, List.set_cons_succ, i64_w, i32_w]
      rfl
    refine pure_ (i := 6) (N := some 69) (v := ?_) (a' := ?_) #[true, true, true, true, true, true, true, false, false, true, false, false] rfl rfl (any_of HT_.out (by kernel_rfl)) (fun _ _ _ h => h) (Or.inl ⟨by rfl, ?_⟩) ?_ ?_
    rotate_left
    · intro w'
      go_simp
      with_reducible rfl
    rotate_left
    · simp only [Act.put, List.setIfInBounds_toArray, List.set_cons_zero, List.set_cons_succ, i64_w, i32_w]
      rfl
    refine pure_ (i := 7) (N := some 76) (v := ?_) (a' := ?_) #[true, true, true, true, true, true, true, true, false, true, false, false] rfl rfl (any_of HT_.out (by kernel_rfl)) (fun _ _ _ h => h) (Or.inl ⟨by rfl, ?_⟩) ?_ ?_
    rotate_left
    · intro w'
      go_simp
      with_reducible rfl
    rotate_left
    · simp only [Act.put, List.setIfInBounds_toArray, List.set_cons_zero, List.set_cons_succ, i64_w, i32_w]
      rfl
    refine pure_ (i := 8) (N := some 77) (v := ?_) (a' := ?_) #[true, true, true, true, true, true, true, true, true, true, false, false] rfl rfl (any_of HT_.out (by kernel_rfl)) (fun _ _ _ h => h) (Or.inl ⟨by rfl, ?_⟩) ?_ ?_
    rotate_left
    · intro w'
      go_simp
      with_reducible rfl
    rotate_left
    · simp only [Act.put, List.setIfInBounds_toArray, List.set_cons_zero, List.set_cons_succ, i64_w, i32_w]
      rfl
    refine one_ (i := 10) (N := none) #[true, true, true, true, true, true, true, true, true, true, true, false] rfl rfl (one_of HT_.out (by kernel_rfl)) (by decide) (fun K hK => ?_)
    refine LB.stored_step HX24.out HB.out GEX24.out 0 [.slice BF25 d.length DF25, .slice BF26 q2.length DF26] (by rfl) rfl ?hr_12 ?_
    (case hr_12 => first | (go_simp; done) | (go_simp; rfl))
    intro w2 hx hk hb
    replace HF1 := Aside0.mk (HF1.out.step hk D_F1_X24.out)
    replace HF2 := Aside0.mk (HF2.out.step hk D_F2_X24.out)
    replace HF3 := Aside0.mk (HF3.out.step hk D_F3_X24.out)
    replace HF4 := Aside0.mk (HF4.out.step hk D_F4_X24.out)
    replace HX5 := Aside0.mk (HX5.out.step hk D_X5_X24.out)
    replace HF6 := Aside0.mk (HF6.out.step hk D_F6_X24.out)
    replace HF7 := Aside0.mk (HF7.out.step hk D_F7_X24.out)
    replace HF8 := Aside0.mk (HF8.out.step hk D_F8_X24.out)
    replace HF9 := Aside0.mk (HF9.out.step hk D_F9_X24.out)
    replace HX10 := Aside0.mk (HX10.out.step hk D_X10_X24.out)
    replace HF11 := Aside0.mk (HF11.out.step hk D_F11_X24.out)
    replace HF25 := Aside0.mk (HF25.out.step hk (apart_symm D_X24_F25.out))
    replace HF26 := Aside0.mk (HF26.out.step hk (apart_symm D_X24_F26.out))
    replace HB := Aside0.mk hb
    replace HX24 := Aside0.mk (show LB w2 PX24 gX24 29 #[.slice BF25 d.length DF25, .slice BF26 q2.length DF26] from hx)
    clear hk hx hb
    (try clear hxX5_0 hfX5_0 hxX5_1 hfX5_1)
    have hxX5_0 := (HX5.out.cell 0).trans (show _ = some (.slice BF3 s.length DF3) from rfl)
    have hfX5_0 := HX5.out.frozen 0
    have hxX5_1 := (HX5.out.cell 1).trans (show _ = some (.slice BF4 q.length DF4) from rfl)
    have hfX5_1 := HX5.out.frozen 1
    (try clear hxX24_0 hfX24_0 hxX24_1 hfX24_1)
    have hxX24_0 := (HX24.out.cell 0).trans (show _ = some (.slice BF25 d.length DF25) from rfl)
    have hfX24_0 := HX24.out.frozen 0
    have hxX24_1 := (HX24.out.cell 1).trans (show _ = some (.slice BF26 q2.length DF26) from rfl)
    have hfX24_1 := HX24.out.frozen 1
    refine hK.out _ _ ⟨hxX5_0, hxX5_1⟩ (fun hHeld => ?_)
    clear hK K
    refine pure_ (i := 11) (N := some 14) (v := ?_) (a' := ?_) #[true, true, true, true, true, true, true, true, true, true, true, true] rfl rfl (any_of HT_.out (by kernel_rfl)) (fun _ _ _ h => h) (Or.inl ⟨by rfl, ?_⟩) ?_ ?_
    rotate_left
    · intro w'
      go_simp
      with_reducible rfl
    rotate_left
    · simp only [Act.put, List.setIfInBounds_toArray, List.set_cons_zero, List.set_cons_succ, i64_w, i32_w]
      rfl
    refine done_ (done_of HT_.out (by kernel_rfl)) ?_
    go_upto_region 12 with (first | ((with_reducible refine gate_callee (f := 13) rfl ?_); refine goesL_ (some 80) rfl rfl Try.func13 (by kernel_rfl) rfl #[.agg #[.slice BF25 d.length DF25, .slice BF26 q2.length DF26]] rfl (by (try simp only [List.map_toArray, List.map_cons, List.map_nil]); first | done | rfl | (simp only [List.length_drop, List.length_take]; rfl)) ?_; (with_reducible refine (impl_DiskBytes.calls k _ _ d _ _ q2 b2 0 _ HF25.out.reads HF25.out.room HF26.out.reads HF26.out.room E10.out).mono ?_); rintro e w2 ⟨vF27, rfl, hrF27, hb⟩; refine ⟨_, rfl, ?_⟩; have hk := kept_below hb; obtain ⟨PF27, hPF27, HLF27⟩ := LR.fresh rfl HB.out hrF27; have HF27 := Aside0.mk HLF27; clear HLF27 hrF27; have D_F1_F27 := Aside0.mk (new_apart HF1.out.lt hPF27); have D_F2_F27 := Aside0.mk (new_apart HF2.out.lt hPF27); have D_F3_F27 := Aside0.mk (new_apart HF3.out.lt hPF27); have D_F4_F27 := Aside0.mk (new_apart HF4.out.lt hPF27); have D_X5_F27 := Aside0.mk (new_apart HX5.out.lt hPF27); have D_F6_F27 := Aside0.mk (new_apart HF6.out.lt hPF27); have D_F7_F27 := Aside0.mk (new_apart HF7.out.lt hPF27); have D_F8_F27 := Aside0.mk (new_apart HF8.out.lt hPF27); have D_F9_F27 := Aside0.mk (new_apart HF9.out.lt hPF27); have D_X10_F27 := Aside0.mk (new_apart HX10.out.lt hPF27); have D_F11_F27 := Aside0.mk (new_apart HF11.out.lt hPF27); have D_X24_F27 := Aside0.mk (new_apart HX24.out.lt hPF27); have D_F25_F27 := Aside0.mk (new_apart HF25.out.lt hPF27); have D_F26_F27 := Aside0.mk (new_apart HF26.out.lt hPF27); replace HF1 := Aside0.mk (HF1.out.step hk no_S); replace HF2 := Aside0.mk (HF2.out.step hk no_S); replace HF3 := Aside0.mk (HF3.out.step hk no_S); replace HF4 := Aside0.mk (HF4.out.step hk no_S); replace HX5 := Aside0.mk (HX5.out.step hk no_S); replace HF6 := Aside0.mk (HF6.out.step hk no_S); replace HF7 := Aside0.mk (HF7.out.step hk no_S); replace HF8 := Aside0.mk (HF8.out.step hk no_S); replace HF9 := Aside0.mk (HF9.out.step hk no_S); replace HX10 := Aside0.mk (HX10.out.step hk no_S); replace HF11 := Aside0.mk (HF11.out.step hk no_S); replace HX24 := Aside0.mk (HX24.out.step hk no_S); replace HF25 := Aside0.mk (HF25.out.step hk no_S); replace HF26 := Aside0.mk (HF26.out.step hk no_S); clear hPF27; obtain ⟨BF27, DF27, e_F27⟩ := HF27.out.val; subst e_F27; replace HB := Aside0.mk (below_step HB.out hb); clear hb hk; (try clear hxX5_0 hfX5_0 hxX5_1 hfX5_1); have hxX5_0 := (HX5.out.cell 0).trans (show _ = some (.slice BF3 s.length DF3) from rfl); have hfX5_0 := HX5.out.frozen 0; have hxX5_1 := (HX5.out.cell 1).trans (show _ = some (.slice BF4 q.length DF4) from rfl); have hfX5_1 := HX5.out.frozen 1; (try clear hxX24_0 hfX24_0 hxX24_1 hfX24_1); have hxX24_0 := (HX24.out.cell 0).trans (show _ = some (.slice BF25 d.length DF25) from rfl); have hfX24_0 := HX24.out.frozen 0; have hxX24_1 := (HX24.out.cell 1).trans (show _ = some (.slice BF26 q2.length DF26) from rfl); have hfX24_1 := HX24.out.frozen 1))
    obtain ⟨i01, hi01, _, hsz1, _⟩ := info_parts info5
    obtain ⟨hlc1, hcut1, hC1⟩ := cut_take (d := (Kd.int .u8)) (P := Try.prog) 22 5 .i64 Try.underlying22 hi01 BF11 DF11 (b2.length : Int) b3 NB3.out HF11.out.room (by omega) GLE.out
    have hcv3 := fun m_ : Nat => Kd.C_string (P := Try.prog) (w := w2.drewN m_) (A := BF11) (c := DF11) Try.underlying22 Try.underlying5 Try.underlying9 (Kd.C_drewN (hC1 _ HF11.out.reads) m_)
    have hcv4 := fun m_ : Nat => Kd.C_string (P := Try.prog) (w := w2.drewN m_) (A := BF27) (c := DF27) Try.underlying22 Try.underlying5 Try.underlying9 (Kd.C_drewN HF27.out.reads m_)
    clear hlc1 hC1 hi01 hsz1
    refine start_ (n := 24) (S := fun w' => w'.cell? ⟨gX5, 0, none⟩ = some (.slice BF3 s.length DF3) ∧ (convert 22 9 (.slice BF11 b3.length DF11)).run Try.prog w' = .ok (.string (strOfNums b3)) w' ∧ (convert 22 9 (.slice BF27 b2.length DF27)).run Try.prog w' = .ok (.string (strOfNums b2)) w') (ds := []) #[false, false, false, false, false, false, false, false, false, false, false, false, false, false, false, false, false, false, false, false, false, false, false, false] (by kernel_rfl) rfl rfl ⟨hxX5_0, hcv3 1, hcv4 1⟩ (fun hHeld => ?_)
    refine with_tabW laws_FnDisk.tab12 laws_FnDisk.bits12 (fun HT_ HW_ => ?_)
    generalize hwd_ : World.drew w2 = wd_ at hHeld ⊢
    have hk := kept_drew hwd_
    replace HF1 := Aside0.mk (HF1.out.step hk no_S)
    replace HF2 := Aside0.mk (HF2.out.step hk no_S)
    replace HF3 := Aside0.mk (HF3.out.step hk no_S)
    replace HF4 := Aside0.mk (HF4.out.step hk no_S)
    replace HX5 := Aside0.mk (HX5.out.step hk no_S)
    replace HF6 := Aside0.mk (HF6.out.step hk no_S)
    replace HF7 := Aside0.mk (HF7.out.step hk no_S)
    replace HF8 := Aside0.mk (HF8.out.step hk no_S)
    replace HF9 := Aside0.mk (HF9.out.step hk no_S)
    replace HX10 := Aside0.mk (HX10.out.step hk no_S)
    replace HF11 := Aside0.mk (HF11.out.step hk no_S)
    replace HX24 := Aside0.mk (HX24.out.step hk no_S)
    replace HF25 := Aside0.mk (HF25.out.step hk no_S)
    replace HF26 := Aside0.mk (HF26.out.step hk no_S)
    replace HF27 := Aside0.mk (HF27.out.step hk no_S)
    replace HB := Aside0.mk (below_drewd HB.out hwd_)
    clear hk hwd_
    (try clear hxX5_0 hfX5_0 hxX5_1 hfX5_1)
    have hxX5_0 := (HX5.out.cell 0).trans (show _ = some (.slice BF3 s.length DF3) from rfl)
    have hfX5_0 := HX5.out.frozen 0
    have hxX5_1 := (HX5.out.cell 1).trans (show _ = some (.slice BF4 q.length DF4) from rfl)
    have hfX5_1 := HX5.out.frozen 1
    (try clear hxX24_0 hfX24_0 hxX24_1 hfX24_1)
    have hxX24_0 := (HX24.out.cell 0).trans (show _ = some (.slice BF25 d.length DF25) from rfl)
    have hfX24_0 := HX24.out.frozen 0
    have hxX24_1 := (HX24.out.cell 1).trans (show _ = some (.slice BF26 q2.length DF26) from rfl)
    have hfX24_1 := HX24.out.frozen 1
    refine pure_ (i := 0) (N := some 99) (v := ?_) (a' := ?_) #[true, false, false, false, false, false, false, false, false, false, false, false, false, false, false, false, false, false, false, false, false, false, false, false] rfl rfl (any_of HT_.out (by kernel_rfl)) (fun _ _ _ h => h) (Or.inl ⟨by rfl, ?_⟩) ?_ ?_
    rotate_left
    · intro w'
      go_simp
      with_reducible rfl
    rotate_left
    · simp only [Act.put, List.setIfInBounds_toArray, List.set_cons_zero, List.set_cons_succ, i64_w, i32_w]
      rfl
    refine pure_ (i := 1) (N := some 100) (v := ?_) (a' := ?_) #[true, true, false, false, false, false, false, false, false, false, false, false, false, false, false, false, false, false, false, false, false, false, false, false] rfl rfl (any_of HT_.out (by kernel_rfl)) (fun _ _ _ h => h) (Or.inl ⟨by rfl, ?_⟩) ?_ ?_
    rotate_left
    · intro w'
      go_simp
      with_reducible rfl
    rotate_left
    · simp only [Act.put, List.setIfInBounds_toArray, List.set_cons_zero, List.set_cons_succ, i64_w, i32_w]
      rfl
    refine pure_ (i := 2) (N := some 101) (v := ?_) (a' := ?_) #[true, true, true, false, false, false, false, false, false, false, false, false, false, false, false, false, false, false, false, false, false, false, false, false] rfl rfl (any_of HT_.out (by kernel_rfl)) (fun _ _ _ h => h) (Or.inl ⟨by rfl, ?_⟩) ?_ ?_
    rotate_left
    · intro w'
      go_simp
      with_reducible rfl
    rotate_left
    · simp only [Act.put, List.setIfInBounds_toArray, List.set_cons_zero, List.set_cons_succ, i64_w, i32_w]
      rfl
    refine pure_ (i := 3) (N := some 102) (v := ?_) (a' := ?_) #[true, true, true, true, false, false, false, false, false, false, false, false, false, false, false, false, false, false, false, false, false, false, false, false] rfl rfl (any_of HT_.out (by kernel_rfl)) (fun _ _ _ h => h) (Or.inl ⟨by rfl, ?_⟩) ?_ ?_
    rotate_left
    · intro w'
      go_simp
      with_reducible rfl
    rotate_left
    · simp only [Act.put, List.setIfInBounds_toArray, List.set_cons_zero, List.set_cons_succ, i64_w, i32_w]
      rfl
    refine pure_ (i := 4) (N := some 103) (v := ?_) (a' := ?_) #[true, true, true, true, true, false, false, false, false, false, false, false, false, false, false, false, false, false, false, false, false, false, false, false] rfl rfl (any_of HT_.out (by kernel_rfl)) (fun _ _ _ h => h) (Or.inl ⟨by rfl, ?_⟩) ?_ ?_
    rotate_left
    · intro w'
      go_simp
      (try rw [gl2])
      with_reducible rfl
    rotate_left
    · simp only [Act.put, List.setIfInBounds_toArray, List.set_cons_zero, List.set_cons_succ, i64_w, i32_w]
      rfl
    refine pure_ (i := 5) (N := some 104) (v := ?_) (a' := ?_) #[true, true, true, true, true, true, false, false, false, false, false, false, false, false, false, false, false, false, false, false, false, false, false, false] rfl rfl (any_of HT_.out (by kernel_rfl)) (fun _ _ _ h => h) (Or.inl ⟨by rfl, ?_⟩) ?_ ?_
    rotate_left
    · intro w'
      go_simp
      with_reducible rfl
    rotate_left
    · simp only [Act.put, List.setIfInBounds_toArray, List.set_cons_zero, List.set_cons_succ, i64_w, i32_w]
      rfl
    refine pure_ (i := 6) (N := some 105) (v := ?_) (a' := ?_) #[true, true, true, true, true, true, true, false, false, false, false, false, false, false, false, false, false, false, false, false, false, false, false, false] rfl rfl (any_of HT_.out (by kernel_rfl)) (fun _ _ _ h => h) (Or.inl ⟨by rfl, ?_⟩) ?_ ?_
    rotate_left
    · intro w'
      go_simp
      with_reducible rfl
    rotate_left
    · simp only [Act.put, List.setIfInBounds_toArray, List.set_cons_zero, List.set_cons_succ, i64_w, i32_w]
      rfl
    refine pure_ (i := 7) (N := some 106) (v := ?_) (a' := ?_) #[true, true, true, true, true, true, true, true, false, false, false, false, false, false, false, false, false, false, false, false, false, false, false, false] rfl rfl (any_of HT_.out (by kernel_rfl)) (fun _ _ _ h => h) (Or.inl ⟨by rfl, ?_⟩) ?_ ?_
    rotate_left
    · intro w'
      go_simp
      with_reducible rfl
    rotate_left
    · simp only [Act.put, List.setIfInBounds_toArray, List.set_cons_zero, List.set_cons_succ, i64_w, i32_w]
      rfl
    refine pure_ (i := 8) (N := some 107) (v := ?_) (a' := ?_) #[true, true, true, true, true, true, true, true, true, false, false, false, false, false, false, false, false, false, false, false, false, false, false, false] rfl rfl (any_of HT_.out (by kernel_rfl)) (fun _ _ _ h => h) (Or.inl ⟨by rfl, ?_⟩) ?_ ?_
    rotate_left
    · intro w'
      go_simp
      with_reducible rfl
    rotate_left
    · simp only [Act.put, List.setIfInBounds_toArray, List.set_cons_zero, List.set_cons_succ, i64_w, i32_w]
      rfl
    refine pure_ (i := 9) (N := some 108) (v := ?_) (a' := ?_) #[true, true, true, true, true, true, true, true, true, true, false, false, false, false, false, false, false, false, false, false, false, false, false, false] rfl rfl (any_of HT_.out (by kernel_rfl)) (fun _ _ _ h => h) (Or.inl ⟨by rfl, ?_⟩) ?_ ?_
    rotate_left
    · intro w'
      go_simp
      with_reducible rfl
    rotate_left
    · simp only [Act.put, List.setIfInBounds_toArray, List.set_cons_zero, List.set_cons_succ, i64_w, i32_w]
      rfl
    refine take_ (i := 10) (N := some 109) (v := ?_) (a' := ?_) #[true, true, true, true, true, true, true, true, true, true, true, false, false, false, false, false, false, false, false, false, false, false, false, false] rfl rfl (take_ofW HT_.out HW_.out (by kernel_rfl)) (fun _ _ _ h => h) (Or.inl ⟨by rfl, ?_⟩) hHeld ?_ ?_
    rotate_left
    · rintro w' ⟨s0, s1, s2⟩
      go_simp
      with_reducible rfl
    rotate_left
    · simp only [Act.put, List.setIfInBounds_toArray, List.set_cons_zero, List.set_cons_succ, i64_w, i32_w]
      rfl
    refine pure_ (i := 11) (N := some 110) (v := ?_) (a' := ?_) #[true, true, true, true, true, true, true, true, true, true, true, true, false, false, false, false, false, false, false, false, false, false, false, false] rfl rfl (any_of HT_.out (by kernel_rfl)) (fun _ _ _ h => h) (Or.inl ⟨by rfl, ?_⟩) ?_ ?_
    rotate_left
    · intro w'
      go_simp
      with_reducible rfl
    rotate_left
    · simp only [Act.put, List.setIfInBounds_toArray, List.set_cons_zero, List.set_cons_succ, i64_w, i32_w]
      rfl
    refine take_ (i := 12) (N := some 111) (v := ?_) (a' := ?_) #[true, true, true, true, true, true, true, true, true, true, true, true, true, false, false, false, false, false, false, false, false, false, false, false] rfl rfl (take_ofW HT_.out HW_.out (by kernel_rfl)) (fun _ _ _ h => h) (Or.inl ⟨by rfl, ?_⟩) hHeld ?_ ?_
    rotate_left
    · rintro w' ⟨s0, s1, s2⟩
      go_simp
      with_reducible rfl
    rotate_left
    · simp only [Act.put, List.setIfInBounds_toArray, List.set_cons_zero, List.set_cons_succ, i64_w, i32_w]
      rfl
    refine pure_ (i := 13) (N := some 112) (v := ?_) (a' := ?_) #[true, true, true, true, true, true, true, true, true, true, true, true, true, true, false, false, false, false, false, false, false, false, false, false] rfl rfl (any_of HT_.out (by kernel_rfl)) (fun _ _ _ h => h) (Or.inl ⟨by rfl, ?_⟩) ?_ ?_
    rotate_left
    · intro w'
      go_simp
      (try rw [gt])
      with_reducible rfl
    rotate_left
    · simp only [Act.put, List.setIfInBounds_toArray, List.set_cons_zero, List.set_cons_succ, i64_w, i32_w]
      rfl
    refine pure_ (i := 14) (N := some 113) (v := ?_) (a' := ?_) #[true, true, true, true, true, true, true, true, true, true, true, true, true, true, true, false, false, false, false, false, false, false, false, false] rfl rfl (any_of HT_.out (by kernel_rfl)) (fun _ _ _ h => h) (Or.inl ⟨by rfl, ?_⟩) ?_ ?_
    rotate_left
    · intro w'
      go_simp
      with_reducible rfl
    rotate_left
    · simp only [Act.put, List.setIfInBounds_toArray, List.set_cons_zero, List.set_cons_succ, i64_w, i32_w]
      rfl
    refine pure_ (i := 15) (N := some 114) (v := ?_) (a' := ?_) #[true, true, true, true, true, true, true, true, true, true, true, true, true, true, true, true, false, false, false, false, false, false, false, false] rfl rfl (any_of HT_.out (by kernel_rfl)) (fun _ _ _ h => h) (Or.inl ⟨by rfl, ?_⟩) ?_ ?_
    rotate_left
    · intro w'
      go_simp
      with_reducible rfl
    rotate_left
    · simp only [Act.put, List.setIfInBounds_toArray, List.set_cons_zero, List.set_cons_succ, i64_w, i32_w]
      rfl
    refine pure_ (i := 16) (N := some 115) (v := ?_) (a' := ?_) #[true, true, true, true, true, true, true, true, true, true, true, true, true, true, true, true, true, false, false, false, false, false, false, false] rfl rfl (any_of HT_.out (by kernel_rfl)) (fun _ _ _ h => h) (Or.inl ⟨by rfl, ?_⟩) ?_ ?_
    rotate_left
    · intro w'
      go_simp
      with_reducible rfl
    rotate_left
    · simp only [Act.put, List.setIfInBounds_toArray, List.set_cons_zero, List.set_cons_succ, i64_w, i32_w]
      rfl
    refine pure_ (i := 17) (N := some 116) (v := ?_) (a' := ?_) #[true, true, true, true, true, true, true, true, true, true, true, true, true, true, true, true, true, true, false, false, false, false, false, false] rfl rfl (any_of HT_.out (by kernel_rfl)) (fun _ _ _ h => h) (Or.inl ⟨by rfl, ?_⟩) ?_ ?_
    rotate_left
    · intro w'
      go_simp
      with_reducible rfl
    rotate_left
    · simp only [Act.put, List.setIfInBounds_toArray, List.set_cons_zero, List.set_cons_succ, i64_w, i32_w]
      rfl
    refine pure_ (i := 18) (N := some 117) (v := ?_) (a' := ?_) #[true, true, true, true, true, true, true, true, true, true, true, true, true, true, true, true, true, true, true, false, false, false, false, false] rfl rfl (any_of HT_.out (by kernel_rfl)) (fun _ _ _ h => h) (Or.inl ⟨by rfl, ?_⟩) ?_ ?_
    rotate_left
    · intro w'
      go_simp
      with_reducible rfl
    rotate_left
    · simp only [Act.put, List.setIfInBounds_toArray, List.set_cons_zero, List.set_cons_succ, i64_w, i32_w]
      rfl
    refine take_ (i := 19) (N := some 118) (v := ?_) (a' := ?_) #[true, true, true, true, true, true, true, true, true, true, true, true, true, true, true, true, true, true, true, true, false, false, false, false] rfl rfl (take_ofW HT_.out HW_.out (by kernel_rfl)) (fun _ _ _ h => h) (Or.inl ⟨by rfl, ?_⟩) hHeld ?_ ?_
    rotate_left
    · rintro w' ⟨s0, s1, s2⟩
      go_simp
      with_reducible rfl
    rotate_left
    · simp only [Act.put, List.setIfInBounds_toArray, List.set_cons_zero, List.set_cons_succ, i64_w, i32_w]
      rfl
    refine pure_ (i := 20) (N := some 119) (v := ?_) (a' := ?_) #[true, true, true, true, true, true, true, true, true, true, true, true, true, true, true, true, true, true, true, true, true, false, false, false] rfl rfl (any_of HT_.out (by kernel_rfl)) (fun _ _ _ h => h) (Or.inl ⟨by rfl, ?_⟩) ?_ ?_
    rotate_left
    · intro w'
      go_simp
      with_reducible rfl
    rotate_left
    · simp only [Act.put, List.setIfInBounds_toArray, List.set_cons_zero, List.set_cons_succ, i64_w, i32_w]
      rfl
    refine pure_ (i := 21) (N := some 120) (v := ?_) (a' := ?_) #[true, true, true, true, true, true, true, true, true, true, true, true, true, true, true, true, true, true, true, true, true, true, false, false] rfl rfl (any_of HT_.out (by kernel_rfl)) (fun _ _ _ h => h) (Or.inl ⟨by rfl, ?_⟩) ?_ ?_
    rotate_left
    · intro w'
      go_simp
      (try rw [gd2])
      with_reducible rfl
    rotate_left
    · simp only [Act.put, List.setIfInBounds_toArray, List.set_cons_zero, List.set_cons_succ, i64_w, i32_w]
      rfl
    refine pure_ (i := 22) (N := some 121) (v := ?_) (a' := ?_) #[true, true, true, true, true, true, true, true, true, true, true, true, true, true, true, true, true, true, true, true, true, true, true, false] rfl rfl (any_of HT_.out (by kernel_rfl)) (fun _ _ _ h => h) (Or.inl ⟨by rfl, ?_⟩) ?_ ?_
    rotate_left
    · intro w'
      go_simp
      with_reducible rfl
    rotate_left
    · simp only [Act.put, List.setIfInBounds_toArray, List.set_cons_zero, List.set_cons_succ, i64_w, i32_w]
      rfl
    refine pure_ (i := 23) (N := some 4) (v := ?_) (a' := ?_) #[true, true, true, true, true, true, true, true, true, true, true, true, true, true, true, true, true, true, true, true, true, true, true, true] rfl rfl (any_of HT_.out (by kernel_rfl)) (fun _ _ _ h => h) (Or.inl ⟨by rfl, ?_⟩) ?_ ?_
    rotate_left
    · intro w'
      go_simp
      with_reducible rfl
    rotate_left
    · simp only [Act.put, List.setIfInBounds_toArray, List.set_cons_zero, List.set_cons_succ, i64_w, i32_w]
      rfl
    refine done_ (done_of HT_.out (by kernel_rfl)) ?_
    go_wp2
    go_ret
    exact ⟨rfl, HB.out⟩
end Go.Proofs.Ytfclobfoghbblaa.PFnDisk
