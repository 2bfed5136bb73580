/- The walk of the law FnBlobs, by hand. -/
import Derived.Test.YtcgkfijigjcmpaaPFnBlobsx0
import Derived.Test.YtcgkfijigjcmpaaPFnBlobsx1
import Derived.Test.YtcgkfijigjcmpaaPFnBlobsx2
import Derived.Test.YtcgkfijigjcmpaaHandFnBlobs
import Derived.Test.YtcgkfijigjcmpaaHw
import Derived.Test.YtcgkfijigjcmpaaWGuard
import Derived.Deep.RegionHeld3
import Derived.Deep.Cut
namespace Go.Proofs.Ytcgkfijigjcmpaa.PFnBlobs
open Go.RowKit Go.Proofs.Ytcgkfijigjcmpaa.Lawful Go.Proofs.YtcgkfijigjcmpaaW.PrintWords Go.Proofs.YtcgkfijigjcmpaaW.PrintLast Go.Proofs.YtcgkfijigjcmpaaW.PrintMore
set_option linter.unusedVariables false
set_option linter.unusedSimpArgs false
def laws_FnBlobs.T12 : Bool × List (List Nat × List Nat) := (true, [([], []), ([0], [0]), ([], []), ([], []), ([2, 3], [2, 3]), ([4], [4]), ([5], [5]), ([1, 6], [1, 6]), ([7], [7]), ([8], [8]), ([9, 8], [8, 9]), ([8], [8]), ([8], [8]), ([11, 12, 8], [8, 11, 12]), ([13, 8], [8, 13]), ([14, 8], [8, 14]), ([10, 15, 8], [8, 10, 15]), ([8, 16], [8, 16]), ([17, 8], [17]), ([18], [18]), ([19, 18], [18, 19]), ([20, 18], [18, 20]), ([18, 21], [18, 21]), ([22, 18], [22]), ([23], [23]), ([24, 23], [23, 24]), ([25, 23, 23], [23, 25]), ([23], [23]), ([27, 23], [23, 27]), ([26, 28, 23], [23, 26, 28]), ([23, 29], [23, 29]), ([30, 26], [30]), ([31], [31]), ([32, 31], [31, 32]), ([33, 31], [31, 33]), ([34, 31], [31, 34]), ([31, 35], [31, 35])])
def laws_FnBlobs.B12 : List Nat := [0, 1, 0, 0, 12, 28, 60, 127, 255, 511, 1023, 511, 511, 6655, 14847, 31231, 65535, 131071, 262143, 524287, 1048575, 2097151, 4194303, 8388607, 16777215, 33554431, 67108863, 16777215, 150994943, 536870911, 1073741823, 2147483647, 4294967295, 8589934591, 17179869183, 34359738367, 68719476735]
theorem laws_FnBlobs.tab12 : rtab .any (opsOf Try.f4 12) = laws_FnBlobs.T12 := by kernel_rfl
theorem laws_FnBlobs.bits12 : waitsOk laws_FnBlobs.T12.2 laws_FnBlobs.B12 = true := by kernel_rfl
set_option maxHeartbeats 16000000 in
set_option maxRecDepth 100000 in
theorem laws_FnBlobs.early0 (A0 : Option Addr) (c0 : Nat) (l0 : List Int) (w : World) (g0 : decide (1048576 < (l0.length : Int)) = true) :
    Calls Try.prog 4 #[.slice A0 l0.length c0] w fun e w' => e = .returned (.bool true) ∧ Below w.heap.size w w' := by
  have HB := Aside0.mk (Below.refl w.heap.size w)
  go_enter Try.func4, Try.ntmps4
  go_wp2
  go_ret
  exact ⟨rfl, HB.out⟩
theorem cell_V35 {W : World} {base n c : Nat} {ok : Nat → Prop} {ad : Addr} {xs : List S35} (h : Kd.V k35 35 W base ok (.slice (some ad) n c) xs) (i : Nat) (hi : i < xs.length) : W.cell? (ad.add (i * 3)) = some (.string (xs.getD i z35).f0) ∧ W.cell? ⟨(ad.add (i * 3)).block, (ad.add (i * 3)).off + 1, none⟩ = some (.int .i64 (xs.getD i z35).f1) := by
  obtain ⟨hn, _, hC⟩ := Kd.V_reads' h
  obtain ⟨ad', A5, c5, e5, h0, h1, h2, _, _⟩ := at_T35 hC (i : Int) (by omega) (by omega)
  injection e5 with e5
  subst e5
  have hrd : rd_T35 xs (i : Int) = xs.getD i z35 := by unfold rd_T35; rw [Int.toNat_natCast]
  rw [hrd] at h0 h1
  simp only [Int.toNat_natCast] at h0 h1
  exact ⟨h0, h1⟩
theorem data_V35 {W : World} {base n c : Nat} {ok : Nat → Prop} {A : Option Addr} {xs : List S35} (h : Kd.V k35 35 W base ok (.slice A n c) xs) (i : Nat) (hi : i < xs.length) :
    ∃ ad A2 c2, A = some ad ∧ W.cell? (ad.add (i * 3)) = some (.string (xs.getD i z35).f0) ∧ W.cell? ⟨(ad.add (i * 3)).block, (ad.add (i * 3)).off + 1, none⟩ = some (.int .i64 (xs.getD i z35).f1) ∧ W.cell? ⟨(ad.add (i * 3)).block, (ad.add (i * 3)).off + 2, none⟩ = some (.slice A2 (xs.getD i z35).f2.length c2) ∧ Kd.V (Kd.int .u8) 5 W base ok (.slice A2 (xs.getD i z35).f2.length c2) (xs.getD i z35).f2 := by
  obtain ⟨hn, _, _⟩ := Kd.V_reads' h
  obtain ⟨ad, cs, rfl, hcl, hFK, hcell, _⟩ := Kd.F_get (Kd.V_F h) z35 (i : Int) (by omega) (by omega)
  simp only [Int.toNat_natCast] at hFK hcell
  obtain ⟨A2, c2, rfl, hl, _⟩ := k35_open (Kd.FK_now hFK)
  have hc : ∀ j u, ([.string (xs.getD i z35).f0, .int .i64 (xs.getD i z35).f1, .slice A2 (xs.getD i z35).f2.length c2] : List Value)[j]? = some u → W.cell? (ad.add (i * 3 + j)) = some u := hcell
  refine ⟨ad, A2, c2, rfl, hc 0 _ rfl, by rw [← add_field _ _ 1 (by omega)]; exact hc 1 _ rfl, by rw [← add_field _ _ 2 (by omega)]; exact hc 2 _ rfl, A2, c2, rfl, hl, fun W' hW => ?_⟩
  obtain ⟨A3, c3, he, _, hC⟩ := k35_open (hFK W' hW)
  have he2 := congrArg (fun l : List Value => l[2]?) he
  simp only [List.getElem?_cons_succ, List.getElem?_cons_zero, Option.some.injEq] at he2
  injection he2 with h1 h2 h3
  subst h1
  exact hC
/-- What holds of a blob in the list. -/
def laws_FnBlobs.good (k : Nat) (s : List S35) (x : S35) : Prop := 0 ≤ x.f1 ∧ x.f0.size = 64 ∧ impl_Sha.f x.f2 = some x.f0 ∧ (0 < x.f1 → impl_BlobGet.f k s x.f0 = some (x.f2, 0)) ∧ (x.f1 = 0 → impl_BlobGet.f k s x.f0 = some ([], 6))
set_option maxHeartbeats 16000000 in
set_option maxRecDepth 100000 in
theorem laws_FnBlobs.walk (k : Nat) (A0 : Option Addr) (c0 : Nat) (l0 : List Int) (y : List S61) (c : List Int) (s : List S35) (w : World) (hr0 : Kd.C (Kd.int .u8) w A0 l0.length l0) (hc0 : l0.length ≤ c0) (g0 : decide (1048576 < (l0.length : Int)) = false) (hs : s.length ≤ 1000000) (e1 : spec_BlobActsOf.f k l0 = some y) (e2 : impl_BlobRun.f k y = some (c, s, 0)) (e3 : spec_BlobRun.f k y = some (c, s, 0)) (e4 : laws_sameInts.f k c c = some true) (eg : ∀ i : Nat, i < s.length → laws_FnBlobs.good k s (s.getD i z35)) :
    Calls Try.prog 4 #[.slice A0 l0.length c0] w fun e w' => e = .returned (.bool true) ∧ Below w.heap.size w w' := by
  have E1 := Aside0.mk e1
  have E2 := Aside0.mk e2
  have E3 := Aside0.mk e3
  have E4 := Aside0.mk e4
  have EG := Aside0.mk eg
  have HR0 := Aside0.mk hr0
  have HL0 := Aside0.mk hc0
  have HSL := Aside0.mk hs
  clear hr0 hc0 hs e1 e2 e3 e4 eg
  have HB := Aside0.mk (Below.refl w.heap.size w)
  have hu35 := Try.underlying35
  go_enter Try.func4, Try.ntmps4
  go_wp2_with (first | ((with_reducible refine gate_callee (f := 10) rfl ?_); refine goesL_ (some 18) rfl rfl Try.func10 (by kernel_rfl) rfl #[.slice A0 l0.length c0] rfl (by (try simp only [List.map_toArray, List.map_cons, List.map_nil]); first | done | rfl | (simp only [List.length_drop, List.length_take]; rfl)) ?_; (with_reducible refine (spec_BlobActsOf.own k _ _ l0 y _ (Kd.C_below HR0.out HB.out) HL0.out E1.out).mono ?_); rintro e w2 ⟨vF1, rfl, hrF1, hb⟩; refine ⟨_, rfl, ?_⟩; have hk := kept_below hb; obtain ⟨PF1, hPF1, HLF1⟩ := LV.fresh HB.out hrF1 (fun _ hk_ => by first | exact hk_ | exact hk_.1); have HF1 := Aside0.mk HLF1; clear HLF1 hrF1; clear hPF1; obtain ⟨BF1, DF1, e_F1⟩ := HF1.out.val; subst e_F1; replace HB := Aside0.mk (below_step HB.out hb); clear hb hk) | ((with_reducible refine gate_callee (f := 11) rfl ?_); refine goesL_ (some 21) rfl rfl Try.func11 (by kernel_rfl) rfl #[.slice BF1 y.length DF1] rfl (by (try simp only [List.map_toArray, List.map_cons, List.map_nil]); first | done | rfl | (simp only [List.length_drop, List.length_take]; rfl)) ?_; (with_reducible refine (impl_BlobRun.own k _ _ y c s 0 _ HF1.out.reads HF1.out.room E2.out).mono ?_); rintro e w2 ⟨vF2, vF3, rfl, hrF2, hrF3, hb⟩; refine ⟨_, rfl, ?_⟩; have hk := kept_below hb; obtain ⟨PF2, hPF2, HLF2⟩ := LR.fresh rfl HB.out hrF2; have HF2 := Aside0.mk HLF2; clear HLF2 hrF2; have D_F1_F2 := Aside0.mk (new_apart HF1.out.lt hPF2); obtain ⟨PF3, hPF3, HLF3⟩ := LS.fresh HB.out hrF3; have HF3 := Aside0.mk HLF3; clear HLF3 hrF3; have D_F1_F3 := Aside0.mk (new_apart HF1.out.lt hPF3); have D_F2_F3 := Aside0.mk (show ∀ k_, PF2 k_ → ¬ PF3 k_ from fun k_ h1_ h2_ => by have a1_ := hPF2 k_ h1_; have a2_ := hPF3 k_ h2_; simp_all); replace HF1 := Aside0.mk (HF1.out.step hk no_S); clear hPF2; obtain ⟨BF2, DF2, e_F2⟩ := HF2.out.val; subst e_F2; clear hPF3; obtain ⟨BF3, DF3, e_F3⟩ := HF3.out.val; subst e_F3; replace HB := Aside0.mk (below_step HB.out hb); clear hb hk) | ((with_reducible refine gate_callee (f := 12) rfl ?_); refine goesL_ (some 27) rfl rfl Try.func12 (by kernel_rfl) rfl #[.slice BF1 y.length DF1] rfl (by (try simp only [List.map_toArray, List.map_cons, List.map_nil]); first | done | rfl | (simp only [List.length_drop, List.length_take]; rfl)) ?_; (with_reducible refine (spec_BlobRun.own k _ _ y c s 0 _ HF1.out.reads HF1.out.room E3.out).mono ?_); rintro e w2 ⟨vF4, vF5, rfl, hrF4, hrF5, hb⟩; refine ⟨_, rfl, ?_⟩; have hk := kept_below hb; obtain ⟨PF4, hPF4, HLF4⟩ := LR.fresh rfl HB.out hrF4; have HF4 := Aside0.mk HLF4; clear HLF4 hrF4; have D_F1_F4 := Aside0.mk (new_apart HF1.out.lt hPF4); have D_F2_F4 := Aside0.mk (new_apart HF2.out.lt hPF4); have D_F3_F4 := Aside0.mk (new_apart HF3.out.lt hPF4); obtain ⟨PF5, hPF5, HLF5⟩ := LS.fresh HB.out hrF5; have HF5 := Aside0.mk HLF5; clear HLF5 hrF5; have D_F1_F5 := Aside0.mk (new_apart HF1.out.lt hPF5); have D_F2_F5 := Aside0.mk (new_apart HF2.out.lt hPF5); have D_F3_F5 := Aside0.mk (new_apart HF3.out.lt hPF5); have D_F4_F5 := Aside0.mk (show ∀ k_, PF4 k_ → ¬ PF5 k_ from fun k_ h1_ h2_ => by have a1_ := hPF4 k_ h1_; have a2_ := hPF5 k_ h2_; simp_all); replace HF1 := Aside0.mk (HF1.out.step hk no_S); replace HF2 := Aside0.mk (HF2.out.step hk no_S); replace HF3 := Aside0.mk (HF3.out.step hk no_S); clear hPF4; obtain ⟨BF4, DF4, e_F4⟩ := HF4.out.val; subst e_F4; clear hPF5; obtain ⟨BF5, DF5, e_F5⟩ := HF5.out.val; subst e_F5; replace HB := Aside0.mk (below_step HB.out hb); clear hb hk) | ((with_reducible refine gate_dst (N := 36) rfl ?_); (refine gate_guard (by rfl) ?_; dsimp only); refine goesL_ (some 36) rfl rfl Try.func13 (by kernel_rfl) rfl #[.slice BF2 c.length DF2, .slice BF4 c.length DF4] rfl (by (try simp only [List.map_toArray, List.map_cons, List.map_nil]); first | done | rfl | (simp only [List.length_drop, List.length_take]; rfl)) ?_; (with_reducible refine (laws_sameInts.calls k _ _ c _ _ c true _ HF2.out.reads HF2.out.room HF4.out.reads HF4.out.room E4.out).mono ?_); rintro e w2 ⟨rfl, hq⟩; refine ⟨_, rfl, ?_⟩; have hk := kept_drawn hq; replace HF1 := Aside0.mk (HF1.out.step hk no_S); replace HF2 := Aside0.mk (HF2.out.step hk no_S); replace HF3 := Aside0.mk (HF3.out.step hk no_S); replace HF4 := Aside0.mk (HF4.out.step hk no_S); replace HF5 := Aside0.mk (HF5.out.step hk no_S); replace HB := Aside0.mk (below_drawn HB.out hq); clear hk hq))
  have n_ := Aside0.mk (LM.toLN (base' := w.heap.size) (LS.toLM HF3.out))
  clear HF3
  have HF3 := n_
  clear n_
  have n_ := Aside0.mk (LM.toLN (base' := w.heap.size) (LS.toLM HF5.out))
  clear HF5
  have HF5 := n_
  clear n_
  clear HF1 HF2 HF4 E1 E2 E3 E4 HR0 HL0
  go_loopg [10] (s.length + 1) (fun kq v10 w' => ∃ i : Nat, v10 = .int .i64 (i : Int) ∧ Aside0 (i + kq = s.length + 1) ∧ Aside0 (LN k35 35 w' w.heap.size PF3 (.slice BF3 s.length DF3) s) ∧ Aside0 (LN k35 35 w' w.heap.size PF5 (.slice BF5 s.length DF5) s) ∧ Aside0 (Below w.heap.size w w'))
  case atStart => exact ⟨0, rfl, ⟨by omega⟩, HF3, HF5, HB⟩
  case round =>
    clear HF3 HF5 HB
    obtain ⟨i, rfl, HK1, HF3, HF5, HB⟩ := hrel
    by_cases hi : i < s.length
    · obtain ⟨k1, rfl⟩ : ∃ k_, gk = k_ + 1 := ⟨gk - 1, by have := HK1.out; omega⟩
      have hlt : decide ((i : Int) < (s.length : Int)) = true := decide_eq_true (by omega)
      have hltn : decide (i < s.length) = true := decide_eq_true (by omega)
      have hwi : wrap64 ((i : Int) + 1) = ((i + 1 : Nat) : Int) := by have := HSL.out; unfold wrap64; omega
      have p1 := eq_true (show (0 : Int) ≤ (i : Int) by omega)
      have q1 := eq_true (show (i : Int) < (s.length : Int) by omega)
      have p2 := hi
      have HE := EG.out i hi
      obtain ⟨ad5, Bd, Dd, e5, hc50, hc51, hc52, hrd⟩ := data_V35 HF3.out.1 i hi
      obtain ⟨ad8, _, _, e8, _, _, _, _⟩ := data_V35 HF5.out.1 i hi
      subst e5 e8
      have HC8 := Aside0.mk (fun (W_ : World) (h_ : LN k35 35 W_ w.heap.size PF5 (.slice (some ad8) s.length DF5) s) => cell_V35 h_.1 i hi)
      obtain ⟨x, hx⟩ : ∃ x_, x_ = s.getD i z35 := ⟨_, rfl⟩
      rw [← hx] at HE hc50 hc51 hc52 hrd HC8
      have Hd := Aside0.mk (show LN (Kd.int .u8) 5 wr w.heap.size PF3 (.slice Bd x.f2.length Dd) x.f2 from ⟨hrd, HF3.out.2⟩)
      obtain ⟨he1, he2, he3, he4, he5⟩ := HE
      have E5 := Aside0.mk he3
      have G4 := Aside0.mk he4
      have G5 := Aside0.mk he5
      have gk1 : (x.f0.toList == x.f0.toList) = true := beq_self_eq_true _
      have gk2 : (x.f0.toList != x.f0.toList) = false := by simp
      have gr1 : (x.f1 != x.f1) = false := by simp
      have gr2 : decide (x.f1 < 0) = false := decide_eq_false (by omega)
      have gz : ((x.f0.size : Int) != 64) = false := by rw [he2]; rfl
      have gz2 : ((x.f0.size : Int) == 64) = true := by rw [he2]; rfl
      clear hx he2 he3 he4 he5 hrd
      go_upto_region 12 with (first | ((with_reducible refine gate_dst (N := 11) rfl ?_); refine box_event ?hg_1 (N := 11) ?hd_1 (cs := #[.string ByteArray.empty, .int .i64 0, .slice none 0 0]) (t := 35) ?hr_1 ?_; (case hd_1 => rfl); (case hg_1 => rfl); (case hr_1 => first | (go_simp; done) | (go_simp; rfl)); intro gX6 hg w2 hbox hb; have hk := kept_below hb; obtain ⟨PX6, hPX6, HLX6⟩ := LB.fresh hg hbox; have HX6 := Aside0.mk HLX6; clear HLX6; have GEX6 := Aside0.mk (show w.heap.size ≤ gX6 from (by rw [hg]; exact HB.out.size)); have D_F3_X6 := Aside0.mk (new_apart HF3.out.lt hPX6); have D_F5_X6 := Aside0.mk (new_apart HF5.out.lt hPX6); have D_d_X6 := Aside0.mk (new_apart Hd.out.lt hPX6); replace HF3 := Aside0.mk (HF3.out.step hk no_S); replace HF5 := Aside0.mk (HF5.out.step hk no_S); replace Hd := Aside0.mk (Hd.out.step hk no_S); replace HB := Aside0.mk (below_step HB.out hb); clear hb hk hbox hg hPX6; (try clear hxX6_0 hfX6_0 hxX6_1 hfX6_1 hxX6_2 hfX6_2); have hxX6_0 := (HX6.out.cell 0).trans (show _ = some (.string ByteArray.empty) from rfl); have hfX6_0 := HX6.out.frozen 0; have hxX6_1 := (HX6.out.cell 1).trans (show _ = some (.int .i64 0) from rfl); have hfX6_1 := HX6.out.frozen 1; have hxX6_2 := (HX6.out.cell 2).trans (show _ = some (.slice none 0 0) from rfl); have hfX6_2 := HX6.out.frozen 2) | ((with_reducible refine gate_store (t := 35) (p := 11) rfl ?_); refine LB.storedW HX6.out HB.out GEX6.out [.string x.f0, .int .i64 x.f1, .slice Bd x.f2.length Dd] rfl rfl (t := 35) (p := 11) rfl rfl ?hr_2 ?_; (case hr_2 => first | (go_simp; done) | (go_simp; simp only [World.setCells, Nat.reduceAdd, Nat.zero_add]; done)); intro w2 hx hk hb; replace HF3 := Aside0.mk (HF3.out.step hk D_F3_X6.out); replace HF5 := Aside0.mk (HF5.out.step hk D_F5_X6.out); replace Hd := Aside0.mk (Hd.out.step hk D_d_X6.out); replace HB := Aside0.mk hb; replace HX6 := Aside0.mk (show LB w2 PX6 gX6 35 #[.string x.f0, .int .i64 x.f1, .slice Bd x.f2.length Dd] from hx); clear hk hx hb; (try clear hxX6_0 hfX6_0 hxX6_1 hfX6_1 hxX6_2 hfX6_2); have hxX6_0 := (HX6.out.cell 0).trans (show _ = some (.string x.f0) from rfl); have hfX6_0 := HX6.out.frozen 0; have hxX6_1 := (HX6.out.cell 1).trans (show _ = some (.int .i64 x.f1) from rfl); have hfX6_1 := HX6.out.frozen 1; have hxX6_2 := (HX6.out.cell 2).trans (show _ = some (.slice Bd x.f2.length Dd) from rfl); have hfX6_2 := HX6.out.frozen 2))
      refine start_ (n := 37) (S := fun w' => w'.cell? ⟨gX6, 0, none⟩ = some (.string x.f0) ∧ w'.cell? ⟨gX6, 1, none⟩ = some (.int .i64 x.f1) ∧ w'.cell? ⟨gX6, 2, none⟩ = some (.slice Bd x.f2.length Dd) ∧ w'.cell? (ad8.add (i * 3)) = some (.string x.f0) ∧ w'.cell? ⟨(ad8.add (i * 3)).block, (ad8.add (i * 3)).off + 1, none⟩ = some (.int .i64 x.f1)) (ds := []) #[false, false, false, false, false, false, false, false, false, false, false, false, false, false, false, false, false, false, false, false, false, false, false, false, false, false, false, false, false, false, false, false, false, false, false, false, false] (by kernel_rfl) rfl rfl ⟨hxX6_0, hxX6_1, hxX6_2, (HC8.out _ HF5.out).1, (HC8.out _ HF5.out).2⟩ (fun hHeld => ?_)
      refine with_tabW laws_FnBlobs.tab12 laws_FnBlobs.bits12 (fun HT_ HW_ => ?_)
      generalize hwd_ : World.drew w2 = wd_ at hHeld ⊢
      have hk := kept_drew hwd_
      replace HF3 := Aside0.mk (HF3.out.step hk no_S)
      replace HF5 := Aside0.mk (HF5.out.step hk no_S)
      replace Hd := Aside0.mk (Hd.out.step hk no_S)
      replace HX6 := Aside0.mk (HX6.out.step hk no_S)
      replace HB := Aside0.mk (below_drewd HB.out hwd_)
      clear hk hwd_
      (try clear hxX6_0 hfX6_0 hxX6_1 hfX6_1 hxX6_2 hfX6_2)
      have hxX6_0 := (HX6.out.cell 0).trans (show _ = some (.string x.f0) from rfl)
      have hfX6_0 := HX6.out.frozen 0
      have hxX6_1 := (HX6.out.cell 1).trans (show _ = some (.int .i64 x.f1) from rfl)
      have hfX6_1 := HX6.out.frozen 1
      have hxX6_2 := (HX6.out.cell 2).trans (show _ = some (.slice Bd x.f2.length Dd) from rfl)
      have hfX6_2 := HX6.out.frozen 2
      refine pure_ (i := 0) (N := some 56) (v := ?_) (a' := ?_) #[true, false, false, false, false, false, false, false, false, false, false, false, false, false, false, false, false, false, false, false, false, false, false, false, false, false, false, false, false, false, false, false, false, false, false, false, false] rfl rfl (any_of HT_.out (by kernel_rfl)) (fun _ _ _ h => h) (Or.inl ⟨by rfl, ?_⟩) ?_ ?_
      rotate_left
      · intro w'
        go_simp
        with_reducible rfl
      rotate_left
      · simp only [Act.put, List.setIfInBounds_toArray, List.set_cons_zero, List.set_cons_succ, i64_w, i32_w]
        rfl
      refine take_ (i := 1) (N := some 57) (v := ?_) (a' := ?_) #[true, true, false, false, false, false, false, false, false, false, false, false, false, false, false, false, false, false, false, false, false, false, false, false, false, false, false, false, false, false, false, false, false, false, false, false, false] rfl rfl (take_ofW HT_.out HW_.out (by kernel_rfl)) (fun _ _ _ h => h) (Or.inl ⟨by rfl, ?_⟩) hHeld ?_ ?_
      rotate_left
      · rintro w' ⟨s0, s1, s2, s3, s4⟩
        go_simp
        with_reducible rfl
      rotate_left
      · simp only [Act.put, List.setIfInBounds_toArray, List.set_cons_zero, List.set_cons_succ, i64_w, i32_w]
        rfl
      refine pure_ (i := 2) (N := some 58) (v := ?_) (a' := ?_) #[true, true, true, false, false, false, false, false, false, false, false, false, false, false, false, false, false, false, false, false, false, false, false, false, false, false, false, false, false, false, false, false, false, false, false, false, false] rfl rfl (any_of HT_.out (by kernel_rfl)) (fun _ _ _ h => h) (Or.inl ⟨by rfl, ?_⟩) ?_ ?_
      rotate_left
      · intro w'
        go_simp
        with_reducible rfl
      rotate_left
      · simp only [Act.put, List.setIfInBounds_toArray, List.set_cons_zero, List.set_cons_succ, i64_w, i32_w]
        rfl
      refine pure_ (i := 3) (N := some 59) (v := ?_) (a' := ?_) #[true, true, true, true, false, false, false, false, false, false, false, false, false, false, false, false, false, false, false, false, false, false, false, false, false, false, false, false, false, false, false, false, false, false, false, false, false] rfl rfl (any_of HT_.out (by kernel_rfl)) (fun _ _ _ h => h) (Or.inl ⟨by rfl, ?_⟩) ?_ ?_
      rotate_left
      · intro w'
        go_simp
        with_reducible rfl
      rotate_left
      · simp only [Act.put, List.setIfInBounds_toArray, List.set_cons_zero, List.set_cons_succ, i64_w, i32_w]
        rfl
      refine pure_ (i := 4) (N := some 60) (v := ?_) (a' := ?_) #[true, true, true, true, true, false, false, false, false, false, false, false, false, false, false, false, false, false, false, false, false, false, false, false, false, false, false, false, false, false, false, false, false, false, false, false, false] rfl rfl (any_of HT_.out (by kernel_rfl)) (fun _ _ _ h => h) (Or.inl ⟨by rfl, ?_⟩) ?_ ?_
      rotate_left
      · intro w'
        go_simp
        with_reducible rfl
      rotate_left
      · simp only [Act.put, List.setIfInBounds_toArray, List.set_cons_zero, List.set_cons_succ, i64_w, i32_w]
        rfl
      refine pure_ (i := 5) (N := some 61) (v := ?_) (a' := ?_) #[true, true, true, true, true, true, false, false, false, false, false, false, false, false, false, false, false, false, false, false, false, false, false, false, false, false, false, false, false, false, false, false, false, false, false, false, false] rfl rfl (any_of HT_.out (by kernel_rfl)) (fun _ _ _ h => h) (Or.inl ⟨by rfl, ?_⟩) ?_ ?_
      rotate_left
      · intro w'
        go_simp
        with_reducible rfl
      rotate_left
      · simp only [Act.put, List.setIfInBounds_toArray, List.set_cons_zero, List.set_cons_succ, i64_w, i32_w]
        rfl
      refine take_ (i := 6) (N := some 62) (v := ?_) (a' := ?_) #[true, true, true, true, true, true, true, false, false, false, false, false, false, false, false, false, false, false, false, false, false, false, false, false, false, false, false, false, false, false, false, false, false, false, false, false, false] rfl rfl (take_ofW HT_.out HW_.out (by kernel_rfl)) (fun _ _ _ h => h) (Or.inl ⟨by rfl, ?_⟩) hHeld ?_ ?_
      rotate_left
      · rintro w' ⟨s0, s1, s2, s3, s4⟩
        go_simp
        with_reducible rfl
      rotate_left
      · simp only [Act.put, List.setIfInBounds_toArray, List.set_cons_zero, List.set_cons_succ, i64_w, i32_w]
        rfl
      refine pure_ (i := 7) (N := some 63) (v := ?_) (a' := ?_) #[true, true, true, true, true, true, true, true, false, false, false, false, false, false, false, false, false, false, false, false, false, false, false, false, false, false, false, false, false, false, false, false, false, false, false, false, false] rfl rfl (any_of HT_.out (by kernel_rfl)) (fun _ _ _ h => h) (Or.inl ⟨by rfl, ?_⟩) ?_ ?_
      rotate_left
      · intro w'
        go_simp
        with_reducible rfl
      rotate_left
      · simp only [Act.put, List.setIfInBounds_toArray, List.set_cons_zero, List.set_cons_succ, i64_w, i32_w]
        rfl
      refine pure_ (i := 8) (N := some 64) (v := ?_) (a' := ?_) #[true, true, true, true, true, true, true, true, true, false, false, false, false, false, false, false, false, false, false, false, false, false, false, false, false, false, false, false, false, false, false, false, false, false, false, false, false] rfl rfl (any_of HT_.out (by kernel_rfl)) (fun _ _ _ h => h) (Or.inl ⟨by rfl, ?_⟩) ?_ ?_
      rotate_left
      · intro w'
        go_simp
        with_reducible rfl
      rotate_left
      · simp only [Act.put, List.setIfInBounds_toArray, List.set_cons_zero, List.set_cons_succ, i64_w, i32_w]
        rfl
      refine pure_ (i := 9) (N := some 65) (v := ?_) (a' := ?_) #[true, true, true, true, true, true, true, true, true, true, false, false, false, false, false, false, false, false, false, false, false, false, false, false, false, false, false, false, false, false, false, false, false, false, false, false, false] rfl rfl (any_of HT_.out (by kernel_rfl)) (fun _ _ _ h => h) (Or.inl ⟨by rfl, ?_⟩) ?_ ?_
      rotate_left
      · intro w'
        go_simp
        with_reducible rfl
      rotate_left
      · simp only [Act.put, List.setIfInBounds_toArray, List.set_cons_zero, List.set_cons_succ, i64_w, i32_w]
        rfl
      refine take_ (i := 10) (N := some 66) (v := ?_) (a' := ?_) #[true, true, true, true, true, true, true, true, true, true, true, false, false, false, false, false, false, false, false, false, false, false, false, false, false, false, false, false, false, false, false, false, false, false, false, false, false] rfl rfl (take_ofW HT_.out HW_.out (by kernel_rfl)) (fun _ _ _ h => h) (Or.inl ⟨by rfl, ?_⟩) hHeld ?_ ?_
      rotate_left
      · rintro w' ⟨s0, s1, s2, s3, s4⟩
        go_simp
        with_reducible rfl
      rotate_left
      · simp only [Act.put, List.setIfInBounds_toArray, List.set_cons_zero, List.set_cons_succ, i64_w, i32_w]
        rfl
      refine pure_ (i := 11) (N := some 67) (v := ?_) (a' := ?_) #[true, true, true, true, true, true, true, true, true, true, true, true, false, false, false, false, false, false, false, false, false, false, false, false, false, false, false, false, false, false, false, false, false, false, false, false, false] rfl rfl (any_of HT_.out (by kernel_rfl)) (fun _ _ _ h => h) (Or.inl ⟨by rfl, ?_⟩) ?_ ?_
      rotate_left
      · intro w'
        go_simp
        with_reducible rfl
      rotate_left
      · simp only [Act.put, List.setIfInBounds_toArray, List.set_cons_zero, List.set_cons_succ, i64_w, i32_w]
        rfl
      refine pure_ (i := 12) (N := some 68) (v := ?_) (a' := ?_) #[true, true, true, true, true, true, true, true, true, true, true, true, true, false, false, false, false, false, false, false, false, false, false, false, false, false, false, false, false, false, false, false, false, false, false, false, false] rfl rfl (any_of HT_.out (by kernel_rfl)) (fun _ _ _ h => h) (Or.inl ⟨by rfl, ?_⟩) ?_ ?_
      rotate_left
      · intro w'
        go_simp
        with_reducible rfl
      rotate_left
      · simp only [Act.put, List.setIfInBounds_toArray, List.set_cons_zero, List.set_cons_succ, i64_w, i32_w]
        rfl
      refine pure_ (i := 13) (N := some 69) (v := ?_) (a' := ?_) #[true, true, true, true, true, true, true, true, true, true, true, true, true, true, false, false, false, false, false, false, false, false, false, false, false, false, false, false, false, false, false, false, false, false, false, false, false] rfl rfl (any_of HT_.out (by kernel_rfl)) (fun _ _ _ h => h) (Or.inl ⟨by rfl, ?_⟩) ?_ ?_
      rotate_left
      · intro w'
        go_simp
        with_reducible rfl
      rotate_left
      · simp only [Act.put, List.setIfInBounds_toArray, List.set_cons_zero, List.set_cons_succ, i64_w, i32_w]
        rfl
      refine pure_ (i := 14) (N := some 70) (v := ?_) (a' := ?_) #[true, true, true, true, true, true, true, true, true, true, true, true, true, true, true, false, false, false, false, false, false, false, false, false, false, false, false, false, false, false, false, false, false, false, false, false, false] rfl rfl (any_of HT_.out (by kernel_rfl)) (fun _ _ _ h => h) (Or.inl ⟨by rfl, ?_⟩) ?_ ?_
      rotate_left
      · intro w'
        go_simp
        with_reducible rfl
      rotate_left
      · simp only [Act.put, List.setIfInBounds_toArray, List.set_cons_zero, List.set_cons_succ, i64_w, i32_w]
        rfl
      refine take_ (i := 15) (N := some 71) (v := ?_) (a' := ?_) #[true, true, true, true, true, true, true, true, true, true, true, true, true, true, true, true, false, false, false, false, false, false, false, false, false, false, false, false, false, false, false, false, false, false, false, false, false] rfl rfl (take_ofW HT_.out HW_.out (by kernel_rfl)) (fun _ _ _ h => h) (Or.inl ⟨by rfl, ?_⟩) hHeld ?_ ?_
      rotate_left
      · rintro w' ⟨s0, s1, s2, s3, s4⟩
        go_simp
        with_reducible rfl
      rotate_left
      · simp only [Act.put, List.setIfInBounds_toArray, List.set_cons_zero, List.set_cons_succ, i64_w, i32_w]
        rfl
      refine pure_ (i := 16) (N := some 72) (v := ?_) (a' := ?_) #[true, true, true, true, true, true, true, true, true, true, true, true, true, true, true, true, true, false, false, false, false, false, false, false, false, false, false, false, false, false, false, false, false, false, false, false, false] rfl rfl (any_of HT_.out (by kernel_rfl)) (fun _ _ _ h => h) (Or.inl ⟨by rfl, ?_⟩) ?_ ?_
      rotate_left
      · intro w'
        go_simp
        with_reducible rfl
      rotate_left
      · simp only [Act.put, List.setIfInBounds_toArray, List.set_cons_zero, List.set_cons_succ, i64_w, i32_w]
        rfl
      refine pure_ (i := 17) (N := some 73) (v := ?_) (a' := ?_) #[true, true, true, true, true, true, true, true, true, true, true, true, true, true, true, true, true, true, false, false, false, false, false, false, false, false, false, false, false, false, false, false, false, false, false, false, false] rfl rfl (any_of HT_.out (by kernel_rfl)) (fun _ _ _ h => h) (Or.inl ⟨by rfl, ?_⟩) ?_ ?_
      rotate_left
      · intro w'
        go_simp
        with_reducible rfl
      rotate_left
      · simp only [Act.put, List.setIfInBounds_toArray, List.set_cons_zero, List.set_cons_succ, i64_w, i32_w]
        rfl
      refine pure_ (i := 18) (N := some 74) (v := ?_) (a' := ?_) #[true, true, true, true, true, true, true, true, true, true, true, true, true, true, true, true, true, true, true, false, false, false, false, false, false, false, false, false, false, false, false, false, false, false, false, false, false] rfl rfl (any_of HT_.out (by kernel_rfl)) (fun _ _ _ h => h) (Or.inl ⟨by rfl, ?_⟩) ?_ ?_
      rotate_left
      · intro w'
        go_simp
        with_reducible rfl
      rotate_left
      · simp only [Act.put, List.setIfInBounds_toArray, List.set_cons_zero, List.set_cons_succ, i64_w, i32_w]
        rfl
      refine pure_ (i := 19) (N := some 75) (v := ?_) (a' := ?_) #[true, true, true, true, true, true, true, true, true, true, true, true, true, true, true, true, true, true, true, true, false, false, false, false, false, false, false, false, false, false, false, false, false, false, false, false, false] rfl rfl (any_of HT_.out (by kernel_rfl)) (fun _ _ _ h => h) (Or.inl ⟨by rfl, ?_⟩) ?_ ?_
      rotate_left
      · intro w'
        go_simp
        with_reducible rfl
      rotate_left
      · simp only [Act.put, List.setIfInBounds_toArray, List.set_cons_zero, List.set_cons_succ, i64_w, i32_w]
        rfl
      refine take_ (i := 20) (N := some 76) (v := ?_) (a' := ?_) #[true, true, true, true, true, true, true, true, true, true, true, true, true, true, true, true, true, true, true, true, true, false, false, false, false, false, false, false, false, false, false, false, false, false, false, false, false] rfl rfl (take_ofW HT_.out HW_.out (by kernel_rfl)) (fun _ _ _ h => h) (Or.inl ⟨by rfl, ?_⟩) hHeld ?_ ?_
      rotate_left
      · rintro w' ⟨s0, s1, s2, s3, s4⟩
        go_simp
        with_reducible rfl
      rotate_left
      · simp only [Act.put, List.setIfInBounds_toArray, List.set_cons_zero, List.set_cons_succ, i64_w, i32_w]
        rfl
      refine pure_ (i := 21) (N := some 77) (v := ?_) (a' := ?_) #[true, true, true, true, true, true, true, true, true, true, true, true, true, true, true, true, true, true, true, true, true, true, false, false, false, false, false, false, false, false, false, false, false, false, false, false, false] rfl rfl (any_of HT_.out (by kernel_rfl)) (fun _ _ _ h => h) (Or.inl ⟨by rfl, ?_⟩) ?_ ?_
      rotate_left
      · intro w'
        go_simp
        with_reducible rfl
      rotate_left
      · simp only [Act.put, List.setIfInBounds_toArray, List.set_cons_zero, List.set_cons_succ, i64_w, i32_w]
        rfl
      refine pure_ (i := 22) (N := some 78) (v := ?_) (a' := ?_) #[true, true, true, true, true, true, true, true, true, true, true, true, true, true, true, true, true, true, true, true, true, true, true, false, false, false, false, false, false, false, false, false, false, false, false, false, false] rfl rfl (any_of HT_.out (by kernel_rfl)) (fun _ _ _ h => h) (Or.inl ⟨by rfl, ?_⟩) ?_ ?_
      rotate_left
      · intro w'
        go_simp
        with_reducible rfl
      rotate_left
      · simp only [Act.put, List.setIfInBounds_toArray, List.set_cons_zero, List.set_cons_succ, i64_w, i32_w]
        rfl
      refine pure_ (i := 23) (N := some 79) (v := ?_) (a' := ?_) #[true, true, true, true, true, true, true, true, true, true, true, true, true, true, true, true, true, true, true, true, true, true, true, true, false, false, false, false, false, false, false, false, false, false, false, false, false] rfl rfl (any_of HT_.out (by kernel_rfl)) (fun _ _ _ h => h) (Or.inl ⟨by rfl, ?_⟩) ?_ ?_
      rotate_left
      · intro w'
        go_simp
        with_reducible rfl
      rotate_left
      · simp only [Act.put, List.setIfInBounds_toArray, List.set_cons_zero, List.set_cons_succ, i64_w, i32_w]
        rfl
      refine pure_ (i := 24) (N := some 80) (v := ?_) (a' := ?_) #[true, true, true, true, true, true, true, true, true, true, true, true, true, true, true, true, true, true, true, true, true, true, true, true, true, false, false, false, false, false, false, false, false, false, false, false, false] rfl rfl (any_of HT_.out (by kernel_rfl)) (fun _ _ _ h => h) (Or.inl ⟨by rfl, ?_⟩) ?_ ?_
      rotate_left
      · intro w'
        go_simp
        with_reducible rfl
      rotate_left
      · simp only [Act.put, List.setIfInBounds_toArray, List.set_cons_zero, List.set_cons_succ, i64_w, i32_w]
        rfl
      refine take_ (i := 25) (N := some 81) (v := ?_) (a' := ?_) #[true, true, true, true, true, true, true, true, true, true, true, true, true, true, true, true, true, true, true, true, true, true, true, true, true, true, false, false, false, false, false, false, false, false, false, false, false] rfl rfl (take_ofW HT_.out HW_.out (by kernel_rfl)) (fun _ _ _ h => h) (Or.inl ⟨by rfl, ?_⟩) hHeld ?_ ?_
      rotate_left
      · rintro w' ⟨s0, s1, s2, s3, s4⟩
        go_simp
        with_reducible rfl
      rotate_left
      · simp only [Act.put, List.setIfInBounds_toArray, List.set_cons_zero, List.set_cons_succ, i64_w, i32_w]
        rfl
      refine pure_ (i := 27) (N := some 83) (v := ?_) (a' := ?_) #[true, true, true, true, true, true, true, true, true, true, true, true, true, true, true, true, true, true, true, true, true, true, true, true, true, true, false, true, false, false, false, false, false, false, false, false, false] rfl rfl (any_of HT_.out (by kernel_rfl)) (fun _ _ _ h => h) (Or.inl ⟨by rfl, ?_⟩) ?_ ?_
      rotate_left
      · intro w'
        go_simp
        with_reducible rfl
      rotate_left
      · simp only [Act.put, List.setIfInBounds_toArray, List.set_cons_zero, List.set_cons_succ, i64_w, i32_w]
        rfl
      refine take_ (i := 28) (N := some 84) (v := ?_) (a' := ?_) #[true, true, true, true, true, true, true, true, true, true, true, true, true, true, true, true, true, true, true, true, true, true, true, true, true, true, false, true, true, false, false, false, false, false, false, false, false] rfl rfl (take_ofW HT_.out HW_.out (by kernel_rfl)) (fun _ _ _ h => h) (Or.inl ⟨by rfl, ?_⟩) hHeld ?_ ?_
      rotate_left
      · rintro w' ⟨s0, s1, s2, s3, s4⟩
        go_simp
        with_reducible rfl
      rotate_left
      · simp only [Act.put, List.setIfInBounds_toArray, List.set_cons_zero, List.set_cons_succ, i64_w, i32_w]
        rfl
      refine one_ (i := 26) (N := some 82) #[true, true, true, true, true, true, true, true, true, true, true, true, true, true, true, true, true, true, true, true, true, true, true, true, true, true, true, true, true, false, false, false, false, false, false, false, false] rfl rfl (one_of HT_.out (by kernel_rfl)) (by decide) (fun K hK => ?_)
      refine goes_ Try.func8 (by kernel_rfl) rfl #[.slice Bd x.f2.length Dd] (by rfl) rfl rfl (by (try simp only [List.map_toArray, List.map_cons, List.map_nil]); first | done | rfl | (simp only [List.length_drop, List.length_take]; rfl)) ?_
      (with_reducible refine (impl_Sha.calls _ _ x.f2 x.f0 _ Hd.out.reads Hd.out.room E5.out).mono ?_)
      rintro e w2 ⟨rfl, hb⟩
      refine ⟨_, rfl, ?_⟩
      have hk := kept_below hb
      replace HF3 := Aside0.mk (HF3.out.step hk no_S)
      replace HF5 := Aside0.mk (HF5.out.step hk no_S)
      replace Hd := Aside0.mk (Hd.out.step hk no_S)
      replace HX6 := Aside0.mk (HX6.out.step hk no_S)
      replace HB := Aside0.mk (below_step HB.out hb)
      clear hb hk
      (try clear hxX6_0 hfX6_0 hxX6_1 hfX6_1 hxX6_2 hfX6_2)
      have hxX6_0 := (HX6.out.cell 0).trans (show _ = some (.string x.f0) from rfl)
      have hfX6_0 := HX6.out.frozen 0
      have hxX6_1 := (HX6.out.cell 1).trans (show _ = some (.int .i64 x.f1) from rfl)
      have hfX6_1 := HX6.out.frozen 1
      have hxX6_2 := (HX6.out.cell 2).trans (show _ = some (.slice Bd x.f2.length Dd) from rfl)
      have hfX6_2 := HX6.out.frozen 2
      refine hK.out _ _ ⟨hxX6_0, hxX6_1, hxX6_2, (HC8.out _ HF5.out).1, (HC8.out _ HF5.out).2⟩ (fun hHeld => ?_)
      clear hK K
      refine norm_ (a' := ?_) ?_ ?_
      rotate_left
      · show Act.put _ (some 82) _ = _
        simp only [Act.put, List.setIfInBounds_toArray, List.set_cons_zero, List.set_cons_succ, i64_w, i32_w]
        rfl
      refine pure_ (i := 29) (N := some 85) (v := ?_) (a' := ?_) #[true, true, true, true, true, true, true, true, true, true, true, true, true, true, true, true, true, true, true, true, true, true, true, true, true, true, true, true, true, true, false, false, false, false, false, false, false] rfl rfl (any_of HT_.out (by kernel_rfl)) (fun _ _ _ h => h) (Or.inl ⟨by rfl, ?_⟩) ?_ ?_
      rotate_left
      · intro w'
        go_simp
        with_reducible rfl
      rotate_left
      · simp only [Act.put, List.setIfInBounds_toArray, List.set_cons_zero, List.set_cons_succ, i64_w, i32_w]
        rfl
      refine pure_ (i := 30) (N := some 86) (v := ?_) (a' := ?_) #[true, true, true, true, true, true, true, true, true, true, true, true, true, true, true, true, true, true, true, true, true, true, true, true, true, true, true, true, true, true, true, false, false, false, false, false, false] rfl rfl (any_of HT_.out (by kernel_rfl)) (fun _ _ _ h => h) (Or.inl ⟨by rfl, ?_⟩) ?_ ?_
      rotate_left
      · intro w'
        go_simp
        with_reducible rfl
      rotate_left
      · simp only [Act.put, List.setIfInBounds_toArray, List.set_cons_zero, List.set_cons_succ, i64_w, i32_w]
        rfl
      refine pure_ (i := 31) (N := some 87) (v := ?_) (a' := ?_) #[true, true, true, true, true, true, true, true, true, true, true, true, true, true, true, true, true, true, true, true, true, true, true, true, true, true, true, true, true, true, true, true, false, false, false, false, false] rfl rfl (any_of HT_.out (by kernel_rfl)) (fun _ _ _ h => h) (Or.inl ⟨by rfl, ?_⟩) ?_ ?_
      rotate_left
      · intro w'
        go_simp
        with_reducible rfl
      rotate_left
      · simp only [Act.put, List.setIfInBounds_toArray, List.set_cons_zero, List.set_cons_succ, i64_w, i32_w]
        rfl
      refine pure_ (i := 32) (N := some 88) (v := ?_) (a' := ?_) #[true, true, true, true, true, true, true, true, true, true, true, true, true, true, true, true, true, true, true, true, true, true, true, true, true, true, true, true, true, true, true, true, true, false, false, false, false] rfl rfl (any_of HT_.out (by kernel_rfl)) (fun _ _ _ h => h) (Or.inl ⟨by rfl, ?_⟩) ?_ ?_
      rotate_left
      · intro w'
        go_simp
        with_reducible rfl
      rotate_left
      · simp only [Act.put, List.setIfInBounds_toArray, List.set_cons_zero, List.set_cons_succ, i64_w, i32_w]
        rfl
      refine take_ (i := 33) (N := some 89) (v := ?_) (a' := ?_) #[true, true, true, true, true, true, true, true, true, true, true, true, true, true, true, true, true, true, true, true, true, true, true, true, true, true, true, true, true, true, true, true, true, true, false, false, false] rfl rfl (take_ofW HT_.out HW_.out (by kernel_rfl)) (fun _ _ _ h => h) (Or.inl ⟨by rfl, ?_⟩) hHeld ?_ ?_
      rotate_left
      · rintro w' ⟨s0, s1, s2, s3, s4⟩
        go_simp
        with_reducible rfl
      rotate_left
      · simp only [Act.put, List.setIfInBounds_toArray, List.set_cons_zero, List.set_cons_succ, i64_w, i32_w]
        rfl
      refine pure_ (i := 34) (N := some 90) (v := ?_) (a' := ?_) #[true, true, true, true, true, true, true, true, true, true, true, true, true, true, true, true, true, true, true, true, true, true, true, true, true, true, true, true, true, true, true, true, true, true, true, false, false] rfl rfl (any_of HT_.out (by kernel_rfl)) (fun _ _ _ h => h) (Or.inl ⟨by rfl, ?_⟩) ?_ ?_
      rotate_left
      · intro w'
        go_simp
        with_reducible rfl
      rotate_left
      · simp only [Act.put, List.setIfInBounds_toArray, List.set_cons_zero, List.set_cons_succ, i64_w, i32_w]
        rfl
      refine pure_ (i := 35) (N := some 91) (v := ?_) (a' := ?_) #[true, true, true, true, true, true, true, true, true, true, true, true, true, true, true, true, true, true, true, true, true, true, true, true, true, true, true, true, true, true, true, true, true, true, true, true, false] rfl rfl (any_of HT_.out (by kernel_rfl)) (fun _ _ _ h => h) (Or.inl ⟨by rfl, ?_⟩) ?_ ?_
      rotate_left
      · intro w'
        go_simp
        with_reducible rfl
      rotate_left
      · simp only [Act.put, List.setIfInBounds_toArray, List.set_cons_zero, List.set_cons_succ, i64_w, i32_w]
        rfl
      refine pure_ (i := 36) (N := some 92) (v := ?_) (a' := ?_) #[true, true, true, true, true, true, true, true, true, true, true, true, true, true, true, true, true, true, true, true, true, true, true, true, true, true, true, true, true, true, true, true, true, true, true, true, true] rfl rfl (any_of HT_.out (by kernel_rfl)) (fun _ _ _ h => h) (Or.inl ⟨by rfl, ?_⟩) ?_ ?_
      rotate_left
      · intro w'
        go_simp
        with_reducible rfl
      rotate_left
      · simp only [Act.put, List.setIfInBounds_toArray, List.set_cons_zero, List.set_cons_succ, i64_w, i32_w]
        rfl
      refine done_ (done_of HT_.out (by kernel_rfl)) ?_
      by_cases hz : 0 < x.f1
      · have E6 := Aside0.mk (G4.out hz)
        have gp : decide (0 < x.f1) = true := decide_eq_true hz
        have gq : (x.f1 == 0) = false := beq_eq_false_iff_ne.mpr (by omega)
        clear hz
        go_wp2_with (first | ((with_reducible refine gate_callee (f := 14) rfl ?_); refine goesL_ (some 97) rfl rfl Try.func14 (by kernel_rfl) rfl #[.slice (some ad5) s.length DF3, .string x.f0] rfl (by (try simp only [List.map_toArray, List.map_cons, List.map_nil]); first | done | rfl | (simp only [List.length_drop, List.length_take]; rfl)) ?_; (with_reducible refine (impl_BlobGet.own k _ _ s x.f0 x.f2 0 _ HF3.out.reads HF3.out.room E6.out).mono ?_); rintro e w2 ⟨vF7, rfl, hrF7, hb⟩; refine ⟨_, rfl, ?_⟩; have hk := kept_below hb; obtain ⟨PF7, hPF7, HLF7⟩ := LR.fresh rfl HB.out hrF7; have HF7 := Aside0.mk HLF7; clear HLF7 hrF7; have D_F3_F7 := Aside0.mk (new_apart HF3.out.lt hPF7); have D_F5_F7 := Aside0.mk (new_apart HF5.out.lt hPF7); have D_d_F7 := Aside0.mk (new_apart Hd.out.lt hPF7); have D_X6_F7 := Aside0.mk (new_apart HX6.out.lt hPF7); replace HF3 := Aside0.mk (HF3.out.step hk no_S); replace HF5 := Aside0.mk (HF5.out.step hk no_S); replace Hd := Aside0.mk (Hd.out.step hk no_S); replace HX6 := Aside0.mk (HX6.out.step hk no_S); clear hPF7; obtain ⟨BF7, DF7, e_F7⟩ := HF7.out.val; subst e_F7; replace HB := Aside0.mk (below_step HB.out hb); clear hb hk; (try clear hxX6_0 hfX6_0 hxX6_1 hfX6_1 hxX6_2 hfX6_2); have hxX6_0 := (HX6.out.cell 0).trans (show _ = some (.string x.f0) from rfl); have hfX6_0 := HX6.out.frozen 0; have hxX6_1 := (HX6.out.cell 1).trans (show _ = some (.int .i64 x.f1) from rfl); have hfX6_1 := HX6.out.frozen 1; have hxX6_2 := (HX6.out.cell 2).trans (show _ = some (.slice Bd x.f2.length Dd) from rfl); have hfX6_2 := HX6.out.frozen 2; have hcv1 := Kd.C_string (P := Try.prog) (A := BF7) (c := DF7) Try.underlying22 Try.underlying5 Try.underlying9 HF7.out.reads; have hcv2 := Kd.C_string (P := Try.prog) (A := Bd) (c := Dd) Try.underlying22 Try.underlying5 Try.underlying9 Hd.out.reads; have gt : ((strOfNums x.f2).toList != (strOfNums x.f2).toList) = false := (by simp); have gt2 : ((strOfNums x.f2).toList == (strOfNums x.f2).toList) = true := (by simp)))
        go_roundg k1
        case measure => have := HK1.out; omega
        case rel => exact ⟨i + 1, by first | rfl | (simp only [hwi]) | simp, ⟨by have := HK1.out; omega⟩, HF3, HF5, HB⟩
      · have hz0 : x.f1 = 0 := by omega
        have E6 := Aside0.mk (G5.out hz0)
        have gp : decide (0 < x.f1) = false := decide_eq_false hz
        have gq : (x.f1 == 0) = true := beq_iff_eq.mpr hz0
        clear hz hz0
        obtain ⟨nl, hnl⟩ : ∃ n_ : List Int, n_ = [] := ⟨_, rfl⟩
        rw [← hnl] at E6
        clear hnl
        go_wp2_with (first | ((with_reducible refine gate_callee (f := 14) rfl ?_); refine goesL_ (some 97) rfl rfl Try.func14 (by kernel_rfl) rfl #[.slice (some ad5) s.length DF3, .string x.f0] rfl (by (try simp only [List.map_toArray, List.map_cons, List.map_nil]); first | done | rfl | (simp only [List.length_drop, List.length_take]; rfl)) ?_; (with_reducible refine (impl_BlobGet.own k _ _ s x.f0 nl 6 _ HF3.out.reads HF3.out.room E6.out).mono ?_); rintro e w2 ⟨vF8, rfl, hrF8, hb⟩; refine ⟨_, rfl, ?_⟩; have hk := kept_below hb; obtain ⟨PF8, hPF8, HLF8⟩ := LR.fresh rfl HB.out hrF8; have HF8 := Aside0.mk HLF8; clear HLF8 hrF8; have D_F3_F8 := Aside0.mk (new_apart HF3.out.lt hPF8); have D_F5_F8 := Aside0.mk (new_apart HF5.out.lt hPF8); have D_d_F8 := Aside0.mk (new_apart Hd.out.lt hPF8); have D_X6_F8 := Aside0.mk (new_apart HX6.out.lt hPF8); replace HF3 := Aside0.mk (HF3.out.step hk no_S); replace HF5 := Aside0.mk (HF5.out.step hk no_S); replace Hd := Aside0.mk (Hd.out.step hk no_S); replace HX6 := Aside0.mk (HX6.out.step hk no_S); clear hPF8; obtain ⟨BF8, DF8, e_F8⟩ := HF8.out.val; subst e_F8; replace HB := Aside0.mk (below_step HB.out hb); clear hb hk; (try clear hxX6_0 hfX6_0 hxX6_1 hfX6_1 hxX6_2 hfX6_2); have hxX6_0 := (HX6.out.cell 0).trans (show _ = some (.string x.f0) from rfl); have hfX6_0 := HX6.out.frozen 0; have hxX6_1 := (HX6.out.cell 1).trans (show _ = some (.int .i64 x.f1) from rfl); have hfX6_1 := HX6.out.frozen 1; have hxX6_2 := (HX6.out.cell 2).trans (show _ = some (.slice Bd x.f2.length Dd) from rfl); have hfX6_2 := HX6.out.frozen 2))
        go_roundg k1
        case measure => have := HK1.out; omega
        case rel => exact ⟨i + 1, by first | rfl | (simp only [hwi]) | simp, ⟨by have := HK1.out; omega⟩, HF3, HF5, HB⟩
    · have hlt : decide ((i : Int) < (s.length : Int)) = false := decide_eq_false (by omega)
      have hltn : decide (i < s.length) = false := decide_eq_false (by omega)
      go_wp2
      go_ret
      exact ⟨rfl, HB.out⟩
end Go.Proofs.Ytcgkfijigjcmpaa.PFnBlobs
