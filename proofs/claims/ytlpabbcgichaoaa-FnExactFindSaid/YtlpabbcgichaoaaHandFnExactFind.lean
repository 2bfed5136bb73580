/- The reference's Find, the program's Find, marks all over a tree. -/
import Derived.Test.YtlpabbcgichaoaaFdSFnExactFind
import Derived.Test.YtlpabbcgichaoaaImVFnExactFind
import Derived.Test.YtlpabbcgichaoaaImAFnExactFind
import Derived.Test.YtlpabbcgichaoaaMatFnExactFind
import Derived.Test.YtlpabbcgichaoaaPFnExactFindx6
import Derived.Test.YtlpabbcgichaoaaPFnExactFindx7
import Derived.Test.YtlpabbcgichaoaaWWords
namespace Go.Proofs.Ytlpabbcgichaoaa.PFnExactFind
open Go.RowKit Go.Proofs.Ytlpabbcgichaoaa.Lawful Go.Proofs.YtlpabbcgichaoaaW.PrintWords Go.Proofs.YtlpabbcgichaoaaW.PrintLast Go.Proofs.YtlpabbcgichaoaaW.PrintMore
attribute [local go_sem] max2_int min2_int max_two min_two max_three min_three max_four min_four
set_option maxHeartbeats 16000000
set_option maxRecDepth 100000
set_option linter.unusedVariables false
set_option linter.unusedSimpArgs false
section
open Go.Proofs.Ytlpabbcgichaoaa.Lawful
def spec_Find.f (k : Nat) (a0_0 : Int) (a0_1 : Int) (a0_2 : Int) (a0_3 : ByteArray) (l0_4 : List (S31)) (a1 : ByteArray) (a2 : Int) : Option (List Int × Int) :=
 (spec_l06Code.f k a0_0 a0_1 a0_2 a0_3 l0_4 a1).bind fun c => if c = 0 then (if a2 < 0 then some ([], 5) else if (a1.size : Int) < a2 then some ([], 5) else (spec_l05Groups.f k a0_0 a0_1 a0_2 a0_3 l0_4).bind fun g => (if (okB (⟨a0_0, a0_1, a0_2, a0_3, l0_4⟩ : S31) = true ∧ cnt (⟨a0_0, a0_1, a0_2, a0_3, l0_4⟩ : S31) ≤ 2000 ∧ a1.size ≤ 120) ∧ (0 ≤ g ∧ g ≤ 1000) ∧ grB (mk (⟨a0_0, a0_1, a0_2, a0_3, l0_4⟩ : S31) []).1 g.toNat = true then (if findL (mat (fun i => bt a1 (i : Int)) a1.size (⟨a0_0, a0_1, a0_2, a0_3, l0_4⟩ : S31)) (sp (fun i => bt a1 (i : Int)) a1.size (⟨a0_0, a0_1, a0_2, a0_3, l0_4⟩ : S31)) g.toNat a1.size a2.toNat = [] then some ([], 6) else some (findL (mat (fun i => bt a1 (i : Int)) a1.size (⟨a0_0, a0_1, a0_2, a0_3, l0_4⟩ : S31)) (sp (fun i => bt a1 (i : Int)) a1.size (⟨a0_0, a0_1, a0_2, a0_3, l0_4⟩ : S31)) g.toNat a1.size a2.toNat, 0)) else none)) else some ([], c)
theorem spec_Find.calls (k : Nat) (a0_0 : Int) (a0_1 : Int) (a0_2 : Int) (a0_3 : ByteArray) (A0_4 : Option Addr) (c0_4 : Nat) (l0_4 : List (S31)) (a1 : ByteArray) (a2 : Int) (r1 : List Int) (r2 : Int) (w : World) (hr0_4 : Kd.C k31 w A0_4 l0_4.length l0_4) (hc0_4 : l0_4.length ≤ c0_4) (h : spec_Find.f k a0_0 a0_1 a0_2 a0_3 l0_4 a1 a2 = some (r1, r2)) :
  Calls Try.prog 7 #[.agg #[.int .i64 a0_0, .int .i64 a0_1, .int .i64 a0_2, .string a0_3, .slice A0_4 l0_4.length c0_4], .string a1, .int .i64 a2] w fun e w' => ∃ v1_ : Value, e = .returned (.tuple #[v1_, .int .i64 r2]) ∧ Kd.R (Kd.int .i64) 3 w' w.heap.size (fun _ => True) v1_ r1 ∧ Below w.heap.size w w' := by
 have hu3 := Try.underlying31
 have HR := am hr0_4
 have HC := am hc0_4
 have HB := am (Below.refl w.heap.size w)
 clear hr0_4 hc0_4
 unfold spec_Find.f at h
 obtain ⟨c, e1, h⟩ := Option.bind_eq_some_iff.1 h
 have E1 := am e1
 clear e1
 obtain ⟨y0, hy0⟩ : ∃ y_ : List Int, y_ = [] := ⟨_, rfl⟩
 have Ny0 := am hy0
 clear hy0
 by_cases c0 : c = 0
 ·
  rw [if_pos c0] at h
  subst c0
  by_cases d0 : a2 < 0
  ·
   rw [if_pos d0] at h
   have db0 : decide (a2 < 0) = true := decide_eq_true d0
   clear d0
   simp only [Option.some.injEq, Prod.mk.injEq] at h
   obtain ⟨rfl, rfl⟩ := h
   go_enter Try.func7, Try.ntmps7
   go_wp2_with (first | ((with_reducible refine gd 3 rfl ?_); refine bx_ (N := 3) (cs := #[.int .i64 a0_0, .int .i64 a0_1, .int .i64 a0_2, .string a0_3, .slice A0_4 l0_4.length c0_4]) (t := 31) rfl rfl ?hr_1 ?_; (case hr_1 => first | (go_simp; done) | (go_simp; rfl)); intro gX1 hg w2 hb hk PX1 hPX1 HX1; have GEX1 := ge_ hg HB; replace HB := bs HB hb; clear hb hk hg hPX1; replace jX1 := HX1.out.c5) | ((with_reducible refine gc 23 rfl ?_); refine goesL_ (some 12) rfl rfl Try.func23 (by kernel_rfl) rfl #[.agg #[.int .i64 a0_0, .int .i64 a0_1, .int .i64 a0_2, .string a0_3, .slice A0_4 l0_4.length c0_4], .string a1] rfl tA ?_; (with_reducible refine (spec_l06Code.calls k a0_0 a0_1 a0_2 a0_3 _ _ l0_4 a1 0 _ (Kd.C_below HR.out HB.out) HC.out E1.out).mono ?_); rintro e w2 ⟨rfl, hb⟩; refine ⟨_, rfl, ?_⟩; have hk := kept_below hb; replace HX1 := sn hk HX1; replace HB := bs HB hb; clear hb hk; replace jX1 := HX1.out.c5) | ((with_reducible refine gd 25 rfl ?_); refine Kd.R_lit (Kd.int .i64) _ 3 ?hg_2 (N := 25) ?hd_2 (xs := []) (inner := []) (ok := fun _ => True) (okp := fun _ => True) ?hr_2 ?hp_2 (fun _ hk => hk) trivial (Below.refl _ _) (Nat.le_refl _) (by simp) ?_; (case hd_2 => rfl); (case hg_2 => rfl); (case hr_2 => first | (go_simp; done) | (go_simp; rfl)); (case hp_2 => exact (Reps.none _ _)); intro vF2 w2 hrF2 hb hg_ hnew_; clear hg_ hnew_; rw [← Ny0.out] at hrF2; have hk := kept_below hb; obtain ⟨PF2, hPF2, HLF2⟩ := LR.fresh rfl HB.out hrF2; have HF2 := am HLF2; clear HLF2 hrF2; have D_X1_F2 := na hPF2 HX1; replace HX1 := sn hk HX1; clear hPF2; obtain ⟨BF2, DF2, e_F2⟩ := HF2.out.val; subst e_F2; replace HB := bs HB hb; clear hb hk; replace jX1 := HX1.out.c5))
   go_ret2
   exact ⟨_, rfl, Kd.R_mono (by have h_ := HF2.out.1; first | exact h_ | (rw [Ny0.out] at h_ ⊢; exact h_)) (fun _ _ => trivial), HB.out⟩
  rw [if_neg d0] at h
  have db0 : decide (a2 < 0) = false := decide_eq_false d0
  by_cases d1 : (a1.size : Int) < a2
  ·
   rw [if_pos d1] at h
   have db1 : decide ((a1.size : Int) < a2) = true := decide_eq_true d1
   clear d1
   simp only [Option.some.injEq, Prod.mk.injEq] at h
   obtain ⟨rfl, rfl⟩ := h
   go_enter Try.func7, Try.ntmps7
   go_wp2_with (first | ((with_reducible refine gd 3 rfl ?_); refine bx_ (N := 3) (cs := #[.int .i64 a0_0, .int .i64 a0_1, .int .i64 a0_2, .string a0_3, .slice A0_4 l0_4.length c0_4]) (t := 31) rfl rfl ?hr_3 ?_; (case hr_3 => first | (go_simp; done) | (go_simp; rfl)); intro gX3 hg w2 hb hk PX3 hPX3 HX3; have GEX3 := ge_ hg HB; replace HB := bs HB hb; clear hb hk hg hPX3; replace jX3 := HX3.out.c5) | ((with_reducible refine gc 23 rfl ?_); refine goesL_ (some 12) rfl rfl Try.func23 (by kernel_rfl) rfl #[.agg #[.int .i64 a0_0, .int .i64 a0_1, .int .i64 a0_2, .string a0_3, .slice A0_4 l0_4.length c0_4], .string a1] rfl tA ?_; (with_reducible refine (spec_l06Code.calls k a0_0 a0_1 a0_2 a0_3 _ _ l0_4 a1 0 _ (Kd.C_below HR.out HB.out) HC.out E1.out).mono ?_); rintro e w2 ⟨rfl, hb⟩; refine ⟨_, rfl, ?_⟩; have hk := kept_below hb; replace HX3 := sn hk HX3; replace HB := bs HB hb; clear hb hk; replace jX3 := HX3.out.c5) | ((with_reducible refine gd 25 rfl ?_); refine Kd.R_lit (Kd.int .i64) _ 3 ?hg_4 (N := 25) ?hd_4 (xs := []) (inner := []) (ok := fun _ => True) (okp := fun _ => True) ?hr_4 ?hp_4 (fun _ hk => hk) trivial (Below.refl _ _) (Nat.le_refl _) (by simp) ?_; (case hd_4 => rfl); (case hg_4 => rfl); (case hr_4 => first | (go_simp; done) | (go_simp; rfl)); (case hp_4 => exact (Reps.none _ _)); intro vF4 w2 hrF4 hb hg_ hnew_; clear hg_ hnew_; rw [← Ny0.out] at hrF4; have hk := kept_below hb; obtain ⟨PF4, hPF4, HLF4⟩ := LR.fresh rfl HB.out hrF4; have HF4 := am HLF4; clear HLF4 hrF4; have D_X3_F4 := na hPF4 HX3; replace HX3 := sn hk HX3; clear hPF4; obtain ⟨BF4, DF4, e_F4⟩ := HF4.out.val; subst e_F4; replace HB := bs HB hb; clear hb hk; replace jX3 := HX3.out.c5))
   go_ret2
   exact ⟨_, rfl, Kd.R_mono (by have h_ := HF4.out.1; first | exact h_ | (rw [Ny0.out] at h_ ⊢; exact h_)) (fun _ _ => trivial), HB.out⟩
  rw [if_neg d1] at h
  have db1 : decide ((a1.size : Int) < a2) = false := decide_eq_false d1
  obtain ⟨g, e2, h⟩ := Option.bind_eq_some_iff.1 h
  by_cases hg : (okB (⟨a0_0, a0_1, a0_2, a0_3, l0_4⟩ : S31) = true ∧ cnt (⟨a0_0, a0_1, a0_2, a0_3, l0_4⟩ : S31) ≤ 2000 ∧ a1.size ≤ 120) ∧ (0 ≤ g ∧ g ≤ 1000) ∧ grB (mk (⟨a0_0, a0_1, a0_2, a0_3, l0_4⟩ : S31) []).1 g.toNat = true
  ·
   rw [if_pos hg] at h
   obtain ⟨⟨hok, hcn, hsz⟩, ⟨hg0, hg1⟩, hgr⟩ := hg
   obtain ⟨gs, rfl⟩ := Int.eq_ofNat_of_zero_le hg0
   obtain ⟨i, rfl⟩ := Int.eq_ofNat_of_zero_le (show 0 ≤ a2 by omega)
   have hi : i ≤ a1.size := by omega
   have dn2 : decide (a1.size < i) = false := decide_eq_false (by omega)
   have dn1 : decide ((i : Int) < 0) = false := decide_eq_false (by omega)
   rw [Int.toNat_natCast] at h hgr
   rw [Int.toNat_natCast] at h
   obtain ⟨hrw, hrt⟩ := (okB_W _).1 (⟨a0_0, a0_1, a0_2, a0_3, l0_4⟩ : S31) (Nat.le_refl _) hok
   have HM := am (fun (ws : World) (hb : Below w.heap.size w ws) => spec_l06Find ws a0_0 a0_1 a0_2 a0_3 l0_4 A0_4 c0_4 a1 i (Kd.C_below HR.out hb) HC.out hrw hcn hrt hsz hi k gs e2 hgr (by omega))
   obtain ⟨r, hr⟩ : ∃ r_, r_ = findL (mat (fun i => bt a1 (i : Int)) a1.size (⟨a0_0, a0_1, a0_2, a0_3, l0_4⟩ : S31)) (sp (fun i => bt a1 (i : Int)) a1.size (⟨a0_0, a0_1, a0_2, a0_3, l0_4⟩ : S31)) gs a1.size i := ⟨_, rfl⟩
   rw [← hr] at HM h
   clear hr d0 d1 hok hcn hsz hg0 hg1 hgr hi hrw hrt e2
   by_cases he : r = []
   ·
    rw [if_pos he] at h
    simp only [Option.some.injEq, Prod.mk.injEq] at h
    obtain ⟨rfl, rfl⟩ := h
    have cb : decide ((r.length : Int) = 0) = true := by rw [he]; rfl
    have cb2 : ((r.length : Int) == 0) = true := by rw [he]; rfl
    have HE := am he
    clear he
    go_enter Try.func7, Try.ntmps7
    go_wp2_with (first | ((with_reducible refine gd 3 rfl ?_); refine bx_ (N := 3) (cs := #[.int .i64 a0_0, .int .i64 a0_1, .int .i64 a0_2, .string a0_3, .slice A0_4 l0_4.length c0_4]) (t := 31) rfl rfl ?hr_5 ?_; (case hr_5 => first | (go_simp; done) | (go_simp; rfl)); intro gX5 hg w2 hb hk PX5 hPX5 HX5; have GEX5 := ge_ hg HB; replace HB := bs HB hb; clear hb hk hg hPX5; replace jX5 := HX5.out.c5) | ((with_reducible refine gc 23 rfl ?_); refine goesL_ (some 12) rfl rfl Try.func23 (by kernel_rfl) rfl #[.agg #[.int .i64 a0_0, .int .i64 a0_1, .int .i64 a0_2, .string a0_3, .slice A0_4 l0_4.length c0_4], .string a1] rfl tA ?_; (with_reducible refine (spec_l06Code.calls k a0_0 a0_1 a0_2 a0_3 _ _ l0_4 a1 0 _ (Kd.C_below HR.out HB.out) HC.out E1.out).mono ?_); rintro e w2 ⟨rfl, hb⟩; refine ⟨_, rfl, ?_⟩; have hk := kept_below hb; replace HX5 := sn hk HX5; replace HB := bs HB hb; clear hb hk; replace jX5 := HX5.out.c5) | ((with_reducible refine gc 24 rfl ?_); refine gl_ (some 29) rfl rfl Try.func24 #[.agg #[.int .i64 a0_0, .int .i64 a0_1, .int .i64 a0_2, .string a0_3, .slice A0_4 l0_4.length c0_4], .string a1, .int .i64 (i : Int)] rfl rfl ?_; (with_reducible refine (HM.out _ HB.out).mono ?_); rintro e w2 ⟨vF6, Pq_, rfl, hlr_, hb⟩; refine ⟨_, rfl, ?_⟩; have hk := kept_below hb; have hrF6 := hlr_.1; clear hlr_; obtain ⟨PF6, hPF6, HLF6⟩ := LR.fresh rfl HB.out hrF6; have HF6 := am HLF6; clear HLF6 hrF6; have D_X5_F6 := na hPF6 HX5; replace HX5 := sn hk HX5; clear hPF6; obtain ⟨BF6, DF6, e_F6⟩ := HF6.out.val; subst e_F6; replace HB := bs HB hb; clear hb hk; replace jX5 := HX5.out.c5) | ((with_reducible refine gd 33 rfl ?_); refine Kd.R_lit (Kd.int .i64) _ 3 ?hg_6 (N := 33) ?hd_6 (xs := []) (inner := []) (ok := fun _ => True) (okp := fun _ => True) ?hr_6 ?hp_6 (fun _ hk => hk) trivial (Below.refl _ _) (Nat.le_refl _) (by simp) ?_; (case hd_6 => rfl); (case hg_6 => rfl); (case hr_6 => first | (go_simp; done) | (go_simp; rfl)); (case hp_6 => exact (Reps.none _ _)); intro vF7 w2 hrF7 hb hg_ hnew_; clear hg_ hnew_; rw [← Ny0.out] at hrF7; have hk := kept_below hb; obtain ⟨PF7, hPF7, HLF7⟩ := LR.fresh rfl HB.out hrF7; have HF7 := am HLF7; clear HLF7 hrF7; have D_X5_F7 := na hPF7 HX5; have D_F6_F7 := nl hPF7 HF6.out.lt; replace HX5 := sn hk HX5; replace HF6 := rn hk HF6; clear hPF7; obtain ⟨BF7, DF7, e_F7⟩ := HF7.out.val; subst e_F7; replace HB := bs HB hb; clear hb hk; replace jX5 := HX5.out.c5))
    go_ret2
    exact ⟨_, rfl, Kd.R_mono (by have h_ := HF7.out.1; first | exact h_ | (rw [Ny0.out] at h_ ⊢; exact h_)) (fun _ _ => trivial), HB.out⟩
   rw [if_neg he] at h
   simp only [Option.some.injEq, Prod.mk.injEq] at h
   obtain ⟨rfl, rfl⟩ := h
   have hl : r.length ≠ 0 := fun h => he (List.length_eq_zero_iff.1 h)
   have cb2 : ((r.length : Int) == 0) = false := bo
   have cb3 : (r.length == 0) = false := beq_eq_false_iff_ne.mpr hl
   clear hl he
   go_enter Try.func7, Try.ntmps7
   go_wp2_with (first | ((with_reducible refine gd 3 rfl ?_); refine bx_ (N := 3) (cs := #[.int .i64 a0_0, .int .i64 a0_1, .int .i64 a0_2, .string a0_3, .slice A0_4 l0_4.length c0_4]) (t := 31) rfl rfl ?hr_7 ?_; (case hr_7 => first | (go_simp; done) | (go_simp; rfl)); intro gX8 hg w2 hb hk PX8 hPX8 HX8; have GEX8 := ge_ hg HB; replace HB := bs HB hb; clear hb hk hg hPX8; replace jX8 := HX8.out.c5) | ((with_reducible refine gc 23 rfl ?_); refine goesL_ (some 12) rfl rfl Try.func23 (by kernel_rfl) rfl #[.agg #[.int .i64 a0_0, .int .i64 a0_1, .int .i64 a0_2, .string a0_3, .slice A0_4 l0_4.length c0_4], .string a1] rfl tA ?_; (with_reducible refine (spec_l06Code.calls k a0_0 a0_1 a0_2 a0_3 _ _ l0_4 a1 0 _ (Kd.C_below HR.out HB.out) HC.out E1.out).mono ?_); rintro e w2 ⟨rfl, hb⟩; refine ⟨_, rfl, ?_⟩; have hk := kept_below hb; replace HX8 := sn hk HX8; replace HB := bs HB hb; clear hb hk; replace jX8 := HX8.out.c5) | ((with_reducible refine gc 24 rfl ?_); refine gl_ (some 29) rfl rfl Try.func24 #[.agg #[.int .i64 a0_0, .int .i64 a0_1, .int .i64 a0_2, .string a0_3, .slice A0_4 l0_4.length c0_4], .string a1, .int .i64 (i : Int)] rfl rfl ?_; (with_reducible refine (HM.out _ HB.out).mono ?_); rintro e w2 ⟨vF9, Pq_, rfl, hlr_, hb⟩; refine ⟨_, rfl, ?_⟩; have hk := kept_below hb; have hrF9 := hlr_.1; clear hlr_; obtain ⟨PF9, hPF9, HLF9⟩ := LR.fresh rfl HB.out hrF9; have HF9 := am HLF9; clear HLF9 hrF9; have D_X8_F9 := na hPF9 HX8; replace HX8 := sn hk HX8; clear hPF9; obtain ⟨BF9, DF9, e_F9⟩ := HF9.out.val; subst e_F9; replace HB := bs HB hb; clear hb hk; replace jX8 := HX8.out.c5))
   go_ret2
   exact ⟨_, rfl, Kd.R_mono (by have h_ := HF9.out.1; first | exact h_ | (rw [Ny0.out] at h_ ⊢; exact h_)) (fun _ _ => trivial), HB.out⟩
  rw [if_neg hg] at h
  exact absurd h (by simp)
 rw [if_neg c0] at h
 have cb : (c == 0) = false := beq_eq_false_iff_ne.mpr c0
 have cb2 : (c != 0) = true := bne_iff_ne.mpr c0
 clear c0
 simp only [Option.some.injEq, Prod.mk.injEq] at h
 obtain ⟨rfl, rfl⟩ := h
 go_enter Try.func7, Try.ntmps7
 go_wp2_with (first | ((with_reducible refine gd 3 rfl ?_); refine bx_ (N := 3) (cs := #[.int .i64 a0_0, .int .i64 a0_1, .int .i64 a0_2, .string a0_3, .slice A0_4 l0_4.length c0_4]) (t := 31) rfl rfl ?hr_8 ?_; (case hr_8 => first | (go_simp; done) | (go_simp; rfl)); intro gX10 hg w2 hb hk PX10 hPX10 HX10; have GEX10 := ge_ hg HB; replace HB := bs HB hb; clear hb hk hg hPX10; replace jX10 := HX10.out.c5) | ((with_reducible refine gc 23 rfl ?_); refine goesL_ (some 12) rfl rfl Try.func23 (by kernel_rfl) rfl #[.agg #[.int .i64 a0_0, .int .i64 a0_1, .int .i64 a0_2, .string a0_3, .slice A0_4 l0_4.length c0_4], .string a1] rfl tA ?_; (with_reducible refine (spec_l06Code.calls k a0_0 a0_1 a0_2 a0_3 _ _ l0_4 a1 c _ (Kd.C_below HR.out HB.out) HC.out E1.out).mono ?_); rintro e w2 ⟨rfl, hb⟩; refine ⟨_, rfl, ?_⟩; have hk := kept_below hb; replace HX10 := sn hk HX10; replace HB := bs HB hb; clear hb hk; replace jX10 := HX10.out.c5) | ((with_reducible refine gd 15 rfl ?_); refine Kd.R_lit (Kd.int .i64) _ 3 ?hg_9 (N := 15) ?hd_9 (xs := []) (inner := []) (ok := fun _ => True) (okp := fun _ => True) ?hr_9 ?hp_9 (fun _ hk => hk) trivial (Below.refl _ _) (Nat.le_refl _) (by simp) ?_; (case hd_9 => rfl); (case hg_9 => rfl); (case hr_9 => first | (go_simp; done) | (go_simp; rfl)); (case hp_9 => exact (Reps.none _ _)); intro vF11 w2 hrF11 hb hg_ hnew_; clear hg_ hnew_; rw [← Ny0.out] at hrF11; have hk := kept_below hb; obtain ⟨PF11, hPF11, HLF11⟩ := LR.fresh rfl HB.out hrF11; have HF11 := am HLF11; clear HLF11 hrF11; have D_X10_F11 := na hPF11 HX10; replace HX10 := sn hk HX10; clear hPF11; obtain ⟨BF11, DF11, e_F11⟩ := HF11.out.val; subst e_F11; replace HB := bs HB hb; clear hb hk; replace jX10 := HX10.out.c5))
 go_ret2
 exact ⟨_, rfl, Kd.R_mono (by have h_ := HF11.out.1; first | exact h_ | (rw [Ny0.out] at h_ ⊢; exact h_)) (fun _ _ => trivial), HB.out⟩
end
section
open Go.Proofs.Ytlpabbcgichaoaa.Lawful
def impl_Find.f (k : Nat) (a0_0 : Int) (a0_1 : Int) (a0_2 : Int) (a0_3 : ByteArray) (l0_4 : List (S31)) (a1 : ByteArray) (a2 : Int) : Option (List Int × Int) :=
 (impl_matchCode.f k a0_0 a0_1 a0_2 a0_3 l0_4 a1).bind fun c => (impl_within.f a2 0 (a1.size : Int)).bind fun b1 => (impl_unless.f b1 5).bind fun u => (impl_first.f k ([c, u] : List Int)).bind fun c2 => if c2 = 0 then (impl_groupsOf.f a0_0 a0_1 a0_2 a0_3 l0_4).bind fun g => (if (okB (⟨a0_0, a0_1, a0_2, a0_3, l0_4⟩ : S31) = true ∧ cnt (⟨a0_0, a0_1, a0_2, a0_3, l0_4⟩ : S31) ≤ 2000 ∧ a1.size ≤ 120) ∧ (0 ≤ a2 ∧ a2 ≤ (a1.size : Int)) ∧ (0 ≤ g ∧ g ≤ 1000) ∧ grI (ad (⟨a0_0, a0_1, a0_2, a0_3, l0_4⟩ : S31) []) g.toNat = true then (if findL (mat (fun i => bt a1 (i : Int)) a1.size (⟨a0_0, a0_1, a0_2, a0_3, l0_4⟩ : S31)) (sp (fun i => bt a1 (i : Int)) a1.size (⟨a0_0, a0_1, a0_2, a0_3, l0_4⟩ : S31)) g.toNat a1.size a2.toNat = [] then some ([], 6) else some (findL (mat (fun i => bt a1 (i : Int)) a1.size (⟨a0_0, a0_1, a0_2, a0_3, l0_4⟩ : S31)) (sp (fun i => bt a1 (i : Int)) a1.size (⟨a0_0, a0_1, a0_2, a0_3, l0_4⟩ : S31)) g.toNat a1.size a2.toNat, 0)) else none) else some ([], c2)
theorem impl_Find.calls (k : Nat) (a0_0 : Int) (a0_1 : Int) (a0_2 : Int) (a0_3 : ByteArray) (A0_4 : Option Addr) (c0_4 : Nat) (l0_4 : List (S31)) (a1 : ByteArray) (a2 : Int) (r1 : List Int) (r2 : Int) (w : World) (hr0_4 : Kd.C k31 w A0_4 l0_4.length l0_4) (hc0_4 : l0_4.length ≤ c0_4) (h : impl_Find.f k a0_0 a0_1 a0_2 a0_3 l0_4 a1 a2 = some (r1, r2)) :
  Calls Try.prog 9 #[.agg #[.int .i64 a0_0, .int .i64 a0_1, .int .i64 a0_2, .string a0_3, .slice A0_4 l0_4.length c0_4], .string a1, .int .i64 a2] w fun e w' => ∃ v1_ : Value, e = .returned (.tuple #[v1_, .int .i64 r2]) ∧ Kd.R (Kd.int .i64) 3 w' w.heap.size (fun _ => True) v1_ r1 ∧ Below w.heap.size w w' := by
 have hu3 := Try.underlying31
 have HR := am hr0_4
 have HC := am hc0_4
 have HB := am (Below.refl w.heap.size w)
 clear hr0_4 hc0_4
 unfold impl_Find.f at h
 obtain ⟨c, e1, h_1⟩ := Option.bind_eq_some_iff.1 h
 obtain ⟨b1, e2, h_2⟩ := Option.bind_eq_some_iff.1 h_1
 obtain ⟨u, e4, h_4⟩ := Option.bind_eq_some_iff.1 h_2
 obtain ⟨c2, e5, h_5⟩ := Option.bind_eq_some_iff.1 h_4
 clear h h_1 h_2 h_4
 have h := h_5
 clear h_5
 obtain ⟨y1, hy1⟩ : ∃ y_ : List Int, y_ = [c, u] := ⟨_, rfl⟩
 rw [← hy1] at e5
 have Ny1 := am hy1
 clear hy1
 have E1 := am e1
 have E2 := am e2
 have E4 := am e4
 have E5 := am e5
 clear e1 e2 e4 e5
 by_cases c0 : c2 = 0
 ·
  rw [if_pos c0] at h
  subst c0
  obtain ⟨g, eg, h_6⟩ := Option.bind_eq_some_iff.1 h
  clear h
  have h := h_6
  clear h_6
  by_cases hg : (okB (⟨a0_0, a0_1, a0_2, a0_3, l0_4⟩ : S31) = true ∧ cnt (⟨a0_0, a0_1, a0_2, a0_3, l0_4⟩ : S31) ≤ 2000 ∧ a1.size ≤ 120) ∧ (0 ≤ a2 ∧ a2 ≤ (a1.size : Int)) ∧ (0 ≤ g ∧ g ≤ 1000) ∧ grI (ad (⟨a0_0, a0_1, a0_2, a0_3, l0_4⟩ : S31) []) g.toNat = true
  ·
   rw [if_pos hg] at h
   obtain ⟨⟨hok, hcn, hsz⟩, ⟨ha0, ha1⟩, ⟨hg0, hg1⟩, hgr⟩ := hg
   obtain ⟨gs, rfl⟩ := Int.eq_ofNat_of_zero_le hg0
   obtain ⟨i, rfl⟩ := Int.eq_ofNat_of_zero_le ha0
   rw [Int.toNat_natCast] at h hgr
   rw [Int.toNat_natCast] at h
   have HI := am (show i ≤ a1.size ∧ gs ≤ 1000 from ⟨by omega, by omega⟩)
   have HGR := am hgr
   have EG := am eg
   obtain ⟨hrw, hrt⟩ := (okB_W _).1 (⟨a0_0, a0_1, a0_2, a0_3, l0_4⟩ : S31) (Nat.le_refl _) hok
   have HM := am (fun (ws : World) hb => impl_new w ws (⟨a0_0, a0_1, a0_2, a0_3, l0_4⟩ : S31) a1 A0_4 c0_4 hb HR.out HC.out hrw hcn hrt hsz)
   try dsimp only at HM
   obtain ⟨r, hr⟩ : ∃ r_, r_ = findL (mat (fun i => bt a1 (i : Int)) a1.size (⟨a0_0, a0_1, a0_2, a0_3, l0_4⟩ : S31)) (sp (fun i => bt a1 (i : Int)) a1.size (⟨a0_0, a0_1, a0_2, a0_3, l0_4⟩ : S31)) gs a1.size i := ⟨_, rfl⟩
   rw [← hr] at h
   have HRS := am hr
   clear hr ha0 ha1 hg0 hg1 hgr eg hok hcn hsz hrw hrt
   by_cases he : r = []
   ·
    rw [if_pos he] at h
    simp only [Option.some.injEq, Prod.mk.injEq] at h
    obtain ⟨rfl, rfl⟩ := h
    have HE := am he
    clear he
    go_enter Try.func9, Try.ntmps9
    go_wp2_with (first | ((with_reducible refine gd 3 rfl ?_); refine bx_ (N := 3) (cs := #[.int .i64 a0_0, .int .i64 a0_1, .int .i64 a0_2, .string a0_3, .slice A0_4 l0_4.length c0_4]) (t := 31) rfl rfl ?hr_1 ?_; (case hr_1 => first | (go_simp; done) | (go_simp; rfl)); intro gX1 hg w2 hb hk PX1 hPX1 HX1; have GEX1 := ge_ hg HB; replace HB := bs HB hb; clear hb hk hg hPX1; replace jX1 := HX1.out.c5) | ((with_reducible refine gc 27 rfl ?_); refine goesL_ (some 12) rfl rfl Try.func27 (by kernel_rfl) rfl #[.agg #[.int .i64 a0_0, .int .i64 a0_1, .int .i64 a0_2, .string a0_3, .slice A0_4 l0_4.length c0_4], .string a1] rfl tA ?_; (with_reducible refine (impl_matchCode.calls k a0_0 a0_1 a0_2 a0_3 _ _ l0_4 a1 c _ (Kd.C_below HR.out HB.out) HC.out E1.out).mono ?_); rintro e w2 ⟨rfl, hb⟩; refine ⟨_, rfl, ?_⟩; have hk := kept_below hb; replace HX1 := sn hk HX1; replace HB := bs HB hb; clear hb hk; replace jX1 := HX1.out.c5) | ((with_reducible refine gc 29 rfl ?_); refine goesL_ (some 16) rfl rfl Try.func29 (by kernel_rfl) rfl #[.int .i64 (i : Int), .int .i64 0, .int .i64 (a1.size : Int)] rfl tA ?_; (with_reducible refine (impl_within.calls (i : Int) 0 (a1.size : Int) b1 _ E2.out).mono ?_); rintro e w2 ⟨rfl, hq⟩; refine ⟨_, rfl, ?_⟩; have hk := kept_drawn hq; replace HX1 := sn hk HX1; replace HB := am (below_drawn HB.out hq); clear hk hq; replace jX1 := HX1.out.c5) | ((with_reducible refine gc 28 rfl ?_); refine goesL_ (some 17) rfl rfl Try.func28 (by kernel_rfl) rfl #[.bool b1, .int .i64 5] rfl tA ?_; (with_reducible refine (impl_unless.calls b1 5 u _ E4.out).mono ?_); rintro e w2 ⟨rfl, hq⟩; refine ⟨_, rfl, ?_⟩; have hk := kept_drawn hq; replace HX1 := sn hk HX1; replace HB := am (below_drawn HB.out hq); clear hk hq; replace jX1 := HX1.out.c5) | ((with_reducible refine gd 18 rfl ?_); refine Kd.R_lit (Kd.int .i64) _ 3 ?hg_2 (N := 18) ?hd_2 (xs := [c, u]) (inner := [.int .i64 c, .int .i64 u]) (ok := fun _ => True) (okp := fun _ => True) ?hr_2 ?hp_2 (fun _ hk => hk) trivial (Below.refl _ _) (Nat.le_refl _) (by simp) ?_; (case hd_2 => rfl); (case hg_2 => rfl); (case hr_2 => first | (go_simp; done) | (go_simp; rfl)); (case hp_2 => exact (Reps.one (show Kd.M (Kd.int .i64) _ _ _ c [.int .i64 c] from rfl) (Reps.one (show Kd.M (Kd.int .i64) _ _ _ u [.int .i64 u] from rfl) (Reps.none _ _)))); intro vF2 w2 hrF2 hb hg_ hnew_; clear hg_ hnew_; rw [← Ny1.out] at hrF2; have hk := kept_below hb; obtain ⟨PF2, hPF2, HLF2⟩ := LR.fresh rfl HB.out hrF2; have HF2 := am HLF2; clear HLF2 hrF2; have D_X1_F2 := na hPF2 HX1; replace HX1 := sn hk HX1; clear hPF2; obtain ⟨BF2, DF2, e_F2⟩ := HF2.out.val; subst e_F2; replace HB := bs HB hb; clear hb hk; replace jX1 := HX1.out.c5) | ((with_reducible refine gc 26 rfl ?_); refine goesL_ (some 19) rfl rfl Try.func26 (by kernel_rfl) rfl #[.slice BF2 y1.length DF2] rfl tA ?_; (with_reducible refine (impl_first.calls k _ _ y1 0 _ HF2.out.reads HF2.out.room E5.out).mono ?_); rintro e w2 ⟨rfl, hq⟩; refine ⟨_, rfl, ?_⟩; have hk := kept_drawn hq; replace HX1 := sn hk HX1; replace HF2 := rn hk HF2; replace HB := am (below_drawn HB.out hq); clear hk hq; replace jX1 := HX1.out.c5) | ((with_reducible refine gc 30 rfl ?_); refine gl_ (some 25) rfl rfl Try.func30 #[.agg #[.int .i64 a0_0, .int .i64 a0_1, .int .i64 a0_2, .string a0_3, .slice A0_4 l0_4.length c0_4], .string a1] rfl rfl ?_; (with_reducible refine (HM.out _ HB.out).mono ?_); rintro e w2 ⟨E, rfl, hok_, hT_, hns_, ⟨PE_, hAt_⟩, hkk_, hgG_, hGN_⟩; refine ⟨_, rfl, ?_⟩; obtain ⟨ks_, hz_⟩ := ad_zero (⟨a0_0, a0_1, a0_2, a0_3, l0_4⟩ : S31); have hx_ := impl_find E w hok_ hgG_ hGN_ (⟨a0_0, a0_1, a0_2, a0_3, l0_4⟩ : S31) ks_ (by rw [hns_]; exact hz_) gs EG.out HI.out.2 (by rw [hns_]; exact HGR.out) i (by rw [hT_]; exact HI.out.1) w2 PE_ _ hAt_; rw [hT_] at hx_; rw [← HRS.out] at hx_; have HX := am hx_; replace HB := am hAt_.1; clear hx_ hAt_ hkk_ hgG_ hGN_ hok_ hT_ hns_ hz_ HX1) | ((with_reducible refine gd 27 rfl ?_); refine gl_ (some 27) rfl rfl Try.func31 #[.pointer (some ⟨E.gG, 0, none⟩), .int .i64 (i : Int)] rfl rfl ?_; (with_reducible refine HX.out.mono ?_); rintro e w2 ⟨v_, VG_, PE2_, P_, rfl, hAt2_, hlr_, hnew_, hnil_, _, _, _, _⟩; refine ⟨_, rfl, ?_⟩; replace HB := am hAt2_.1; have HLR := am hlr_; clear hAt2_ hlr_ hnew_; obtain ⟨_, hv_⟩ := hnil_.resolve_right (fun h => h.1 HE.out); subst hv_) | ((with_reducible refine gd 29 rfl ?_); refine Kd.event_run (v := .bool true) (w1 := w2) rfl ?hr ?_; (case hr => first | (go_simp; done) | (go_simp; rfl) | rfl)))
    go_ret2
    exact ⟨_, rfl, Kd.R_nil _ _ _ _ _, HB.out⟩
   rw [if_neg he] at h
   simp only [Option.some.injEq, Prod.mk.injEq] at h
   obtain ⟨rfl, rfl⟩ := h
   have HE := am he
   clear he
   go_enter Try.func9, Try.ntmps9
   go_wp2_with (first | ((with_reducible refine gd 3 rfl ?_); refine bx_ (N := 3) (cs := #[.int .i64 a0_0, .int .i64 a0_1, .int .i64 a0_2, .string a0_3, .slice A0_4 l0_4.length c0_4]) (t := 31) rfl rfl ?hr_3 ?_; (case hr_3 => first | (go_simp; done) | (go_simp; rfl)); intro gX3 hg w2 hb hk PX3 hPX3 HX3; have GEX3 := ge_ hg HB; replace HB := bs HB hb; clear hb hk hg hPX3; replace jX3 := HX3.out.c5) | ((with_reducible refine gc 27 rfl ?_); refine goesL_ (some 12) rfl rfl Try.func27 (by kernel_rfl) rfl #[.agg #[.int .i64 a0_0, .int .i64 a0_1, .int .i64 a0_2, .string a0_3, .slice A0_4 l0_4.length c0_4], .string a1] rfl tA ?_; (with_reducible refine (impl_matchCode.calls k a0_0 a0_1 a0_2 a0_3 _ _ l0_4 a1 c _ (Kd.C_below HR.out HB.out) HC.out E1.out).mono ?_); rintro e w2 ⟨rfl, hb⟩; refine ⟨_, rfl, ?_⟩; have hk := kept_below hb; replace HX3 := sn hk HX3; replace HB := bs HB hb; clear hb hk; replace jX3 := HX3.out.c5) | ((with_reducible refine gc 29 rfl ?_); refine goesL_ (some 16) rfl rfl Try.func29 (by kernel_rfl) rfl #[.int .i64 (i : Int), .int .i64 0, .int .i64 (a1.size : Int)] rfl tA ?_; (with_reducible refine (impl_within.calls (i : Int) 0 (a1.size : Int) b1 _ E2.out).mono ?_); rintro e w2 ⟨rfl, hq⟩; refine ⟨_, rfl, ?_⟩; have hk := kept_drawn hq; replace HX3 := sn hk HX3; replace HB := am (below_drawn HB.out hq); clear hk hq; replace jX3 := HX3.out.c5) | ((with_reducible refine gc 28 rfl ?_); refine goesL_ (some 17) rfl rfl Try.func28 (by kernel_rfl) rfl #[.bool b1, .int .i64 5] rfl tA ?_; (with_reducible refine (impl_unless.calls b1 5 u _ E4.out).mono ?_); rintro e w2 ⟨rfl, hq⟩; refine ⟨_, rfl, ?_⟩; have hk := kept_drawn hq; replace HX3 := sn hk HX3; replace HB := am (below_drawn HB.out hq); clear hk hq; replace jX3 := HX3.out.c5) | ((with_reducible refine gd 18 rfl ?_); refine Kd.R_lit (Kd.int .i64) _ 3 ?hg_4 (N := 18) ?hd_4 (xs := [c, u]) (inner := [.int .i64 c, .int .i64 u]) (ok := fun _ => True) (okp := fun _ => True) ?hr_4 ?hp_4 (fun _ hk => hk) trivial (Below.refl _ _) (Nat.le_refl _) (by simp) ?_; (case hd_4 => rfl); (case hg_4 => rfl); (case hr_4 => first | (go_simp; done) | (go_simp; rfl)); (case hp_4 => exact (Reps.one (show Kd.M (Kd.int .i64) _ _ _ c [.int .i64 c] from rfl) (Reps.one (show Kd.M (Kd.int .i64) _ _ _ u [.int .i64 u] from rfl) (Reps.none _ _)))); intro vF4 w2 hrF4 hb hg_ hnew_; clear hg_ hnew_; rw [← Ny1.out] at hrF4; have hk := kept_below hb; obtain ⟨PF4, hPF4, HLF4⟩ := LR.fresh rfl HB.out hrF4; have HF4 := am HLF4; clear HLF4 hrF4; have D_X3_F4 := na hPF4 HX3; replace HX3 := sn hk HX3; clear hPF4; obtain ⟨BF4, DF4, e_F4⟩ := HF4.out.val; subst e_F4; replace HB := bs HB hb; clear hb hk; replace jX3 := HX3.out.c5) | ((with_reducible refine gc 26 rfl ?_); refine goesL_ (some 19) rfl rfl Try.func26 (by kernel_rfl) rfl #[.slice BF4 y1.length DF4] rfl tA ?_; (with_reducible refine (impl_first.calls k _ _ y1 0 _ HF4.out.reads HF4.out.room E5.out).mono ?_); rintro e w2 ⟨rfl, hq⟩; refine ⟨_, rfl, ?_⟩; have hk := kept_drawn hq; replace HX3 := sn hk HX3; replace HF4 := rn hk HF4; replace HB := am (below_drawn HB.out hq); clear hk hq; replace jX3 := HX3.out.c5) | ((with_reducible refine gc 30 rfl ?_); refine gl_ (some 25) rfl rfl Try.func30 #[.agg #[.int .i64 a0_0, .int .i64 a0_1, .int .i64 a0_2, .string a0_3, .slice A0_4 l0_4.length c0_4], .string a1] rfl rfl ?_; (with_reducible refine (HM.out _ HB.out).mono ?_); rintro e w2 ⟨E, rfl, hok_, hT_, hns_, ⟨PE_, hAt_⟩, hkk_, hgG_, hGN_⟩; refine ⟨_, rfl, ?_⟩; obtain ⟨ks_, hz_⟩ := ad_zero (⟨a0_0, a0_1, a0_2, a0_3, l0_4⟩ : S31); have hx_ := impl_find E w hok_ hgG_ hGN_ (⟨a0_0, a0_1, a0_2, a0_3, l0_4⟩ : S31) ks_ (by rw [hns_]; exact hz_) gs EG.out HI.out.2 (by rw [hns_]; exact HGR.out) i (by rw [hT_]; exact HI.out.1) w2 PE_ _ hAt_; rw [hT_] at hx_; rw [← HRS.out] at hx_; have HX := am hx_; replace HB := am hAt_.1; clear hx_ hAt_ hkk_ hgG_ hGN_ hok_ hT_ hns_ hz_ HX3) | ((with_reducible refine gd 27 rfl ?_); refine gl_ (some 27) rfl rfl Try.func31 #[.pointer (some ⟨E.gG, 0, none⟩), .int .i64 (i : Int)] rfl rfl ?_; (with_reducible refine HX.out.mono ?_); rintro e w2 ⟨v_, VG_, PE2_, P_, rfl, hAt2_, hlr_, hnew_, hnil_, _, _, _, _⟩; refine ⟨_, rfl, ?_⟩; replace HB := am hAt2_.1; have HLR := am hlr_; clear hAt2_ hlr_ hnew_; obtain ⟨_, gv_, nv_, cv_, hv_⟩ := hnil_.resolve_left (fun h => HE.out h.1); subst hv_) | ((with_reducible refine gd 29 rfl ?_); refine Kd.event_run (v := .bool false) (w1 := w2) rfl ?hr ?_; (case hr => first | (go_simp; done) | (go_simp; rfl) | rfl)))
   go_ret2
   exact ⟨_, rfl, Kd.R_mono HLR.out.1 (fun _ _ => trivial), HB.out⟩
  rw [if_neg hg] at h
  exact absurd h (by simp)
 rw [if_neg c0] at h
 have cb : (c2 == 0) = false := beq_eq_false_iff_ne.mpr c0
 have cb2 : (c2 != 0) = true := bne_iff_ne.mpr c0
 clear c0
 simp only [Option.some.injEq, Prod.mk.injEq] at h
 obtain ⟨rfl, rfl⟩ := h
 go_enter Try.func9, Try.ntmps9
 go_wp2_with (first | ((with_reducible refine gd 3 rfl ?_); refine bx_ (N := 3) (cs := #[.int .i64 a0_0, .int .i64 a0_1, .int .i64 a0_2, .string a0_3, .slice A0_4 l0_4.length c0_4]) (t := 31) rfl rfl ?hr_5 ?_; (case hr_5 => first | (go_simp; done) | (go_simp; rfl)); intro gX5 hg w2 hb hk PX5 hPX5 HX5; have GEX5 := ge_ hg HB; replace HB := bs HB hb; clear hb hk hg hPX5; replace jX5 := HX5.out.c5) | ((with_reducible refine gc 27 rfl ?_); refine goesL_ (some 12) rfl rfl Try.func27 (by kernel_rfl) rfl #[.agg #[.int .i64 a0_0, .int .i64 a0_1, .int .i64 a0_2, .string a0_3, .slice A0_4 l0_4.length c0_4], .string a1] rfl tA ?_; (with_reducible refine (impl_matchCode.calls k a0_0 a0_1 a0_2 a0_3 _ _ l0_4 a1 c _ (Kd.C_below HR.out HB.out) HC.out E1.out).mono ?_); rintro e w2 ⟨rfl, hb⟩; refine ⟨_, rfl, ?_⟩; have hk := kept_below hb; replace HX5 := sn hk HX5; replace HB := bs HB hb; clear hb hk; replace jX5 := HX5.out.c5) | ((with_reducible refine gc 29 rfl ?_); refine goesL_ (some 16) rfl rfl Try.func29 (by kernel_rfl) rfl #[.int .i64 a2, .int .i64 0, .int .i64 (a1.size : Int)] rfl tA ?_; (with_reducible refine (impl_within.calls a2 0 (a1.size : Int) b1 _ E2.out).mono ?_); rintro e w2 ⟨rfl, hq⟩; refine ⟨_, rfl, ?_⟩; have hk := kept_drawn hq; replace HX5 := sn hk HX5; replace HB := am (below_drawn HB.out hq); clear hk hq; replace jX5 := HX5.out.c5) | ((with_reducible refine gc 28 rfl ?_); refine goesL_ (some 17) rfl rfl Try.func28 (by kernel_rfl) rfl #[.bool b1, .int .i64 5] rfl tA ?_; (with_reducible refine (impl_unless.calls b1 5 u _ E4.out).mono ?_); rintro e w2 ⟨rfl, hq⟩; refine ⟨_, rfl, ?_⟩; have hk := kept_drawn hq; replace HX5 := sn hk HX5; replace HB := am (below_drawn HB.out hq); clear hk hq; replace jX5 := HX5.out.c5) | ((with_reducible refine gd 18 rfl ?_); refine Kd.R_lit (Kd.int .i64) _ 3 ?hg_6 (N := 18) ?hd_6 (xs := [c, u]) (inner := [.int .i64 c, .int .i64 u]) (ok := fun _ => True) (okp := fun _ => True) ?hr_6 ?hp_6 (fun _ hk => hk) trivial (Below.refl _ _) (Nat.le_refl _) (by simp) ?_; (case hd_6 => rfl); (case hg_6 => rfl); (case hr_6 => first | (go_simp; done) | (go_simp; rfl)); (case hp_6 => exact (Reps.one (show Kd.M (Kd.int .i64) _ _ _ c [.int .i64 c] from rfl) (Reps.one (show Kd.M (Kd.int .i64) _ _ _ u [.int .i64 u] from rfl) (Reps.none _ _)))); intro vF6 w2 hrF6 hb hg_ hnew_; clear hg_ hnew_; rw [← Ny1.out] at hrF6; have hk := kept_below hb; obtain ⟨PF6, hPF6, HLF6⟩ := LR.fresh rfl HB.out hrF6; have HF6 := am HLF6; clear HLF6 hrF6; have D_X5_F6 := na hPF6 HX5; replace HX5 := sn hk HX5; clear hPF6; obtain ⟨BF6, DF6, e_F6⟩ := HF6.out.val; subst e_F6; replace HB := bs HB hb; clear hb hk; replace jX5 := HX5.out.c5) | ((with_reducible refine gc 26 rfl ?_); refine goesL_ (some 19) rfl rfl Try.func26 (by kernel_rfl) rfl #[.slice BF6 y1.length DF6] rfl tA ?_; (with_reducible refine (impl_first.calls k _ _ y1 c2 _ HF6.out.reads HF6.out.room E5.out).mono ?_); rintro e w2 ⟨rfl, hq⟩; refine ⟨_, rfl, ?_⟩; have hk := kept_drawn hq; replace HX5 := sn hk HX5; replace HF6 := rn hk HF6; replace HB := am (below_drawn HB.out hq); clear hk hq; replace jX5 := HX5.out.c5))
 go_ret2
 exact ⟨_, rfl, Kd.R_nil _ _ _ _ _, HB.out⟩
end
section
open Go.Proofs.Ytlpabbcgichaoaa.Lawful
mutual
def mkRx : S31 → Int → Int
 | ⟨_, _, _, _, l⟩, k => mkRxL l (wrap64 (wrap64 (wrap64 (wrap64 (k + 1) + 1) + 1) + 1))
def mkRxL : List S31 → Int → Int
 | [], k => k
 | x :: l, k => mkRxL l (mkRx x k)
end
mutual
def shX (W : World) (P : Nat → Prop) : S31 → Nat → Nat → Prop
 | ⟨_, _, _, _, l⟩, g, i => ∃ cs t, W.heap[g]? = some (Obj.cells cs t (0, 0)) ∧ (∃ a, cs[i * 5]? = some (.int .i64 a)) ∧ (∃ a, cs[i * 5 + 1]? = some (.int .i64 a)) ∧ (∃ a, cs[i * 5 + 2]? = some (.int .i64 a)) ∧ (∃ a, cs[i * 5 + 3]? = some (.string a)) ∧ ∃ A c, cs[i * 5 + 4]? = some (.slice A l.length c) ∧ shV W P l A
def shV (W : World) (P : Nat → Prop) : List S31 → Option Addr → Prop
 | [], _ => True
 | x :: l, A => ∃ g, A = some ⟨g, 0, none⟩ ∧ P g ∧ shX W P x g 0 ∧ shT W P l g 1
def shT (W : World) (P : Nat → Prop) : List S31 → Nat → Nat → Prop
 | [], _, _ => True
 | x :: l, g, i => shX W P x g i ∧ shT W P l g (i + 1)
end
theorem shT_iff {W : World} {P : Nat → Prop} : ∀ (l : List S31) (g i : Nat), shT W P l g i ↔ ∀ (q : Nat) (y : S31), l[q]? = some y → shX W P y g (i + q)
 | [], g, i => by rw [shT]; simp
 | x :: l, g, i => by
  rw [shT, shT_iff l g (i + 1)]
  constructor
  ·
   rintro ⟨h1, h2⟩ q y hq
   cases q with
   | zero => simp at hq; subst hq; exact h1
   | succ q => have := h2 q y (by simpa using hq); rwa [show i + 1 + q = i + (q + 1) by omega] at this
  intro h
  exact ⟨h 0 x rfl, fun q y hq => by have := h (q + 1) y (by simpa using hq); rwa [show i + (q + 1) = i + 1 + q by omega] at this⟩
theorem shV_at {W : World} {P : Nat → Prop} {l : List S31} {A : Option Addr} (h : shV W P l A) (q : Nat) (y : S31) (hq : l[q]? = some y) : ∃ g, A = some ⟨g, 0, none⟩ ∧ P g ∧ shX W P y g q := by
 cases l with
 | nil => simp at hq
 | cons x l =>
  rw [shV] at h
  obtain ⟨g, hA, hP, h1, h2⟩ := h
  refine ⟨g, hA, hP, ?_⟩
  cases q with
  | zero => simp at hq; subst hq; exact h1
  | succ q => have := (shT_iff l g 1).1 h2 q y (by simpa using hq); rwa [show 1 + q = q + 1 by omega] at this
theorem shV_mk {W : World} {P : Nat → Prop} {l : List S31} {A : Option Addr} (h : l ≠ [] → ∃ g, A = some ⟨g, 0, none⟩ ∧ P g ∧ ∀ (q : Nat) (y : S31), l[q]? = some y → shX W P y g q) : shV W P l A := by
 cases l with
 | nil => rw [shV]; trivial
 | cons x l =>
  obtain ⟨g, h1, h2, h3⟩ := h (by simp)
  rw [shV]
  exact ⟨g, h1, h2, h3 0 x rfl, (shT_iff l g 1).2 fun q y hq => by have := h3 (q + 1) y (by simpa using hq); rwa [show q + 1 = 1 + q by omega] at this⟩
def KP (o o' : Option Value) : Prop := (∀ A n c, o = some (.slice A n c) → o' = some (.slice A n c)) ∧ (∀ a, o = some (.int .i64 a) → ∃ b, o' = some (.int .i64 b)) ∧ (∀ a, o = some (.string a) → ∃ b, o' = some (.string b))
theorem KP.refl (o : Option Value) : KP o o := ⟨fun _ _ _ h => h, fun a h => ⟨a, h⟩, fun a h => ⟨a, h⟩⟩
theorem KP.trans {o o' o2 : Option Value} (h : KP o o') (h2 : KP o' o2) : KP o o2 :=
 ⟨fun A n c e => h2.1 A n c (h.1 A n c e), fun a e => by obtain ⟨b, hb⟩ := h.2.1 a e; exact h2.2.1 b hb, fun a e => by obtain ⟨b, hb⟩ := h.2.2 a e; exact h2.2.2 b hb⟩
theorem KP.int {o : Option Value} {a b : Int} (h : o = some (.int .i64 a)) : KP o (some (.int .i64 b)) := by subst h; exact ⟨fun _ _ _ h => by simp at h, fun _ _ => ⟨b, rfl⟩, fun _ h => by simp at h⟩
theorem KP.str {o : Option Value} {a b : ByteArray} (h : o = some (.string a)) : KP o (some (.string b)) := by subst h; exact ⟨fun _ _ _ h => by simp at h, fun _ h => by simp at h, fun _ _ => ⟨b, rfl⟩⟩
def Pres (W W' : World) : Prop := ∀ (g : Nat) (cs : Array Value) (t : TypeId), W.heap[g]? = some (Obj.cells cs t (0, 0)) → ∃ cs' : Array Value, W'.heap[g]? = some (Obj.cells cs' t (0, 0)) ∧ ∀ j : Nat, KP cs[j]? cs'[j]?
theorem Pres.refl (W : World) : Pres W W := fun g cs t h => ⟨cs, h, fun j => KP.refl _⟩
theorem Pres.trans {W W' W2 : World} (h : Pres W W') (h2 : Pres W' W2) : Pres W W2 := fun g cs t hg => by
 obtain ⟨c1, h1, k1⟩ := h g cs t hg
 obtain ⟨c2, h3, k2⟩ := h2 g c1 t h1
 exact ⟨c2, h3, fun j => (k1 j).trans (k2 j)⟩
theorem Pres.kept {W W' : World} (h : Kept W W' (fun _ => False)) : Pres W W' := fun g cs t hg =>
 ⟨cs, (h.2 g (blk_lt hg) (fun h => h)).trans hg, fun j => KP.refl _⟩
theorem Pres.set {W : World} {g : Nat} {cs : Array Value} {t : TypeId} (hg : W.heap[g]? = some (.cells cs t (0, 0))) (j : Nat) (u : Value) (hk : KP cs[j]? (some u)) : Pres W (W.setCell ⟨g, j, none⟩ u) := fun g2 cs2 t2 h2 => by
 by_cases e : g2 = g
 ·
  subst e
  rw [hg] at h2
  injection h2 with h2
  injection h2 with h3 h4 h5
  subst h3 h4
  refine ⟨_, blk_set hg j u, fun q => ?_⟩
  rw [Array.getElem?_setIfInBounds]
  by_cases c : j = q
  ·
   subst c
   rw [if_pos rfl]
   by_cases b : j < cs.size
   ·
    rw [if_pos b]; exact hk
   rw [if_neg b, Array.getElem?_eq_none (by omega)]; exact KP.refl _
  rw [if_neg c]; exact KP.refl _
 have hk2 : Kept W (W.setCell ⟨g, j, none⟩ u) (fun k => k = g) := Kept.setCell (p := ⟨g, j, none⟩) (Kept.refl W (fun k => k = g)) (.inl rfl) u
 exact ⟨cs2, (hk2.2 g2 (blk_lt h2) e).trans h2, fun q => KP.refl _⟩
theorem sh_pres {W W' : World} {P : Nat → Prop} (hp : Pres W W') : ∀ N : Nat, (∀ x : S31, SizeOf.sizeOf x ≤ N → ∀ g i, shX W P x g i → shX W' P x g i) ∧ (∀ l : List S31, SizeOf.sizeOf l ≤ N → ∀ A, shV W P l A → shV W' P l A) := by
 intro N
 induction N with
 | zero => exact ⟨fun t h => by cases t; simp at h, fun l h => by cases l <;> simp at h⟩
 | succ N ih =>
  constructor
  ·
   rintro ⟨a, b, c, s, l⟩ hN g i h
   rw [shX] at h ⊢
   obtain ⟨cs, t, hg, ⟨a0, h0⟩, ⟨a1, h1⟩, ⟨a2, h2⟩, ⟨a3, h3⟩, A, c4, h4, h5⟩ := h
   obtain ⟨cs', hg', hk⟩ := hp g cs t hg
   exact ⟨cs', t, hg', (hk _).2.1 _ h0, (hk _).2.1 _ h1, (hk _).2.1 _ h2, (hk _).2.2 _ h3, A, c4, (hk _).1 _ _ _ h4, ih.2 l (by simp at hN; omega) A h5⟩
  intro l hN A h
  refine shV_mk fun hne => ?_
  obtain ⟨x, l', rfl⟩ : ∃ x l', l = x :: l' := by cases l with | nil => exact absurd rfl hne | cons x l => exact ⟨x, l, rfl⟩
  obtain ⟨g, hA, hP, _⟩ := shV_at h 0 x rfl
  refine ⟨g, hA, hP, fun q y hq => ?_⟩
  obtain ⟨g2, hA2, _, h2⟩ := shV_at h q y hq
  rw [hA] at hA2
  injection hA2 with hA2
  injection hA2 with hA2
  subst hA2
  exact ih.1 y (by have := List.sizeOf_lt_of_mem (List.mem_of_getElem? hq); omega) g q h2
theorem sh_R {W : World} {base : Nat} {P : Nat → Prop} : ∀ (N : Nat) (l : List S31), SizeOf.sizeOf l ≤ N → ∀ (ok : Nat → Prop) (A : Option Addr) (n c : Nat), (∀ k, ok k → P k) → k31.R 31 W base ok (.slice A n c) l → shV W P l A := by
 intro N
 induction N with
 | zero => intro l h; cases l <;> simp at h
 | succ N ih =>
  intro l hN ok A n c hok h
  refine shV_mk fun hne => ?_
  have hlen : 0 < l.length := List.length_pos_iff.2 hne
  have hn := (Kd.R_reads' h).1
  obtain ⟨g, cap, he, _, _, cells, hcells⟩ := Kd.R_form h hlen
  injection he with hA _ _
  subst hA
  refine ⟨g, rfl, hok g (h.1 g rfl), fun q y hq => ?_⟩
  have hql : q < l.length := (List.getElem?_eq_some_iff.1 hq).1
  obtain ⟨cc, _, hM, hcc, _⟩ := Kd.R_elem h z31 (q : Int) (by omega) (by omega)
  rw [Int.toNat_natCast, List.getD_eq_getElem?_getD, hq] at hM
  rw [Int.toNat_natCast] at hcc
  obtain ⟨v4, rfl, hR⟩ := k31_openM hM
  obtain ⟨A4, c4, rfl⟩ := Kd.R_slice hR
  have hc : ∀ j u, [Value.int .i64 y.f0, .int .i64 y.f1, .int .i64 y.f2, .string y.f3, .slice A4 y.f4.length c4][j]? = some u → cells[q * 5 + j]? = some u := fun j u hu => (blk_cell hcells _).symm.trans (hcc j u hu)
  obtain ⟨f0, f1, f2, f3, f4⟩ := y
  rw [shX]
  exact ⟨cells, 31, hcells, ⟨_, hc 0 _ rfl⟩, ⟨_, hc 1 _ rfl⟩, ⟨_, hc 2 _ rfl⟩, ⟨_, hc 3 _ rfl⟩, A4, c4, hc 4 _ rfl, ih f4 (by have := List.sizeOf_lt_of_mem (List.mem_of_getElem? hq); simp at this; omega) _ A4 _ c4 (fun k hk => hok k hk.1) hR⟩
theorem mkText_go : ∀ (n : Nat) (x : Int) (t : ByteArray), 0 ≤ x → x < 10 ^ n → x ≤ 9223372036854775807 → n + t.size ≤ 1000 → ∃ r, laws_markText.l0 (n + 1) x t = some r := by
 intro n
 induction n with
 | zero =>
  intro x t h0 h1 hb h2
  have : x = 0 := by rw [Int.pow_zero] at h1; omega
  subst this
  rw [laws_markText.l0, if_neg (by decide), if_pos (by omega)]
  exact ⟨_, rfl⟩
 | succ n ih =>
  intro x t h0 h1 hb h2
  rw [laws_markText.l0]
  by_cases h : x > 0
  ·
   have hd : Int.tdiv x 10 = x / 10 := Int.tdiv_eq_ediv_of_nonneg h0
   have hw : wrap64 (Int.tdiv x 10) = x / 10 := by rw [hd]; unfold wrap64; omega
   have hs : (strOfNums [(wrap64 (48 + (Int.tmod x 10))) % 256]).size = 1 := by rw [strOfNums_size]; rfl
   obtain ⟨r, e⟩ := ih (x / 10) (strOfNums [(wrap64 (48 + (Int.tmod x 10))) % 256] ++ t) (by omega) (by rw [Int.pow_succ] at h1; omega) (by omega) (by rw [ByteArray.size_append, hs]; omega)
   rw [if_pos h, Option.bind_some, if_pos (by rw [hs]; omega), hw]
   exact ⟨r, e⟩
  rw [if_neg h, if_pos (by omega)]
  exact ⟨_, rfl⟩
theorem mkText_some (x : Int) (h : x ≤ 9223372036854775807) : ∃ k r, laws_markText.f k x = some r := by
 by_cases c : x ≤ 0
 ·
  exact ⟨0, _, if_pos c⟩
 obtain ⟨r, e⟩ := mkText_go 19 x ⟨#[]⟩ (by omega) (by omega) h (by decide)
 exact ⟨20, r, (if_neg c).trans e⟩
theorem wrap64_max (x : Int) : wrap64 x ≤ 9223372036854775807 := by unfold wrap64; omega
section
variable {P : Program} {ops : Array Oper} {rest : List Oper} {o : Oper} {a : Act} {Q : Exit → Act → World → Prop} {w0 w W : World} {P1 : Nat → Prop}
theorem sh_put {g j : Nat} {cs : Array Value} {t0 : TypeId} (hc : W.heap[g]? = some (.cells cs t0 (0, 0))) (u : Value) (hP : P1 g) (hge : w0.heap.size ≤ g) (hB : Below w0.heap.size w0 W) (hK : Kept w W P1) (hk : KP cs[j]? (some u)) (hgd : o.guard = none) {t : TypeId} {p : Tmp} {y : Operand} (hN : o.dst = none) (ho : o.op = .store t (.tmp p) y)
  (hrun : (execOp a.eval o).run P W = .ok .skip (W.setCell ⟨g, j, none⟩ u))
  (h : ∀ w2, Pres W w2 → Kept w w2 P1 → Below w0.heap.size w0 w2 → wpList P ops Q rest a w2) : wpList P ops Q (o :: rest) a W := by
 refine store_event hgd ho hN hrun (fun w' hw => ?_)
 subst hw
 exact h _ (Pres.set hc j u hk) (hK.setCell (.inl hP) u) (below_set hB hge)
end
mutual
def lenX : S31 → Prop
 | ⟨_, _, _, _, l⟩ => lenL l ∧ l.length < 4611686018427387904
def lenL : List S31 → Prop
 | [] => True
 | x :: l => lenX x ∧ lenL l
end
theorem lenL_mem : ∀ (l : List S31), lenL l → ∀ y ∈ l, lenX y
 | [], _, y, hy => by simp at hy
 | x :: l, h, y, hy => by
  rw [lenL] at h
  rcases List.mem_cons.1 hy with rfl | hy
  ·
   exact h.1
  exact lenL_mem l h.2 y hy
theorem laws_markRxS.ok (w0 : World) (P : Nat → Prop) (hP : ∀ k, P k → w0.heap.size ≤ k) : ∀ (N : Nat) (l : List S31), SizeOf.sizeOf l ≤ N → l.length < 4611686018427387904 → lenL l → ∀ (w : World) (A : Option Addr) (c : Nat) (a1 : Int), Below w0.heap.size w0 w → shV w P l A →
  Calls Try.prog 33 #[.slice A l.length c, .int .i64 a1] w fun e w' => e = .returned (.int .i64 (mkRxL l a1)) ∧ Pres w w' ∧ Below w0.heap.size w0 w' ∧ Kept w w' P := by
 intro N
 induction N with
 | zero => intro l h; cases l <;> simp at h
 | succ N ih =>
 intro l hN hlen hll w A c a1 hB hsh
 have hu := Try.underlying31
 have IH := am ih
 have HP := am hP
 have HLL := am (lenL_mem l hll)
 have HSZ := am hN
 have HLN := am hlen
 have HB := am hB
 have HS := am hsh
 have HPR := am (Pres.refl w)
 have HK := am (Kept.refl w P)
 clear ih hP hN hlen hll hB hsh
 obtain ⟨r, hr⟩ : ∃ r_, r_ = mkRxL l a1 := ⟨_, rfl⟩
 rw [← hr]
 have HRS := am hr.symm
 clear hr
 go_enter Try.func33, Try.ntmps33
 go_wp2
 go_loopg [1, 5] (l.length + 1) (fun kq v1 v5 w' => ∃ (i : Nat) (t : Int), v1 = .int .i64 t ∧ v5 = .int .i64 (i : Int) ∧ Aside0 (i + kq = l.length + 1 ∧ 0 < kq) ∧ Aside0 (mkRxL (l.drop i) t = r) ∧ Aside0 (shV w' P l A) ∧ Aside0 (Pres w w') ∧ Aside0 (Below w0.heap.size w0 w') ∧ Aside0 (Kept w w' P))
 case atStart => exact ⟨0, a1, rfl, rfl, ⟨by omega, by omega⟩, HRS, HS, HPR, HB, HK⟩
 case round =>
  clear HRS HS HPR HB HK
  obtain ⟨i, t, rfl, rfl, HX, HR, HS, HPR, HB, HK⟩ := hrel
  by_cases hlt : i < l.length
  ·
   obtain ⟨k1, rfl⟩ : ∃ k_, gk = k_ + 1 := ⟨gk - 1, by have := HX.out; omega⟩
   have HE2 := am (show i + 1 + k1 = l.length + 1 ∧ 0 < k1 ∧ i < l.length from by have := HX.out; exact ⟨by omega, by omega, hlt⟩)
   have hwe : wrap64 ((i : Int) + 1) = ((i + 1 : Nat) : Int) := by have := HLN.out; unfold wrap64; omega
   have hwek : IntKind.i64.wrap ((i : Int) + 1) = ((i + 1 : Nat) : Int) := (i64_w _).trans hwe
   have u1 := zn i
   have u2 := il hlt
   have u3 := eq_true hlt
   have u2d := dl hlt
   have u3d := decide_eq_true hlt
   obtain ⟨y, hy⟩ : ∃ y, l[i]? = some y := ⟨_, List.getElem?_eq_getElem hlt⟩
   have hdr : l.drop i = y :: l.drop (i + 1) := by rw [List.drop_eq_getElem_cons hlt, (List.getElem?_eq_some_iff.1 hy).2]
   have hym := List.mem_of_getElem? hy
   obtain ⟨f0, f1, f2, f3, ks⟩ := y
   have hlk := HLL.out _ hym
   rw [lenX] at hlk
   have HKS := am (IH.out ks (by have h1 := List.sizeOf_lt_of_mem hym; have h2 := HSZ.out; simp at h1; omega) hlk.2 hlk.1)
   obtain ⟨g, eA, hg, _⟩ := shV_at HS.out i _ hy
   subst eA
   have HG := am hg
   have HY := am hy
   obtain ⟨t1, ht1⟩ : ∃ z, z = wrap64 (t + 1) := ⟨_, rfl⟩
   obtain ⟨t2, ht2⟩ : ∃ z, z = wrap64 (t1 + 1) := ⟨_, rfl⟩
   obtain ⟨t3, ht3⟩ : ∃ z, z = wrap64 (t2 + 1) := ⟨_, rfl⟩
   obtain ⟨t4, ht4⟩ : ∃ z, z = wrap64 (t3 + 1) := ⟨_, rfl⟩
   have hw1 := ht1.symm
   have hw2 := ht2.symm
   have hw3 := ht3.symm
   have hw4 := ht4.symm
   have hw1k : IntKind.i64.wrap (t + 1) = t1 := (i64_w _).trans hw1
   have hw2k : IntKind.i64.wrap (t1 + 1) = t2 := (i64_w _).trans hw2
   have hw3k : IntKind.i64.wrap (t2 + 1) = t3 := (i64_w _).trans hw3
   have hw4k : IntKind.i64.wrap (t3 + 1) = t4 := (i64_w _).trans hw4
   obtain ⟨kt_, rt, htx⟩ := mkText_some t3 (by rw [ht3]; exact wrap64_max _)
   have HTX := am htx
   have HNX := am (show mkRxL (l.drop (i + 1)) (mkRxL ks t4) = r from by have h_ := HR.out; rw [hdr, mkRxL, mkRx, hw1, hw2, hw3, hw4] at h_; exact h_)
   clear ht1 ht2 ht3 ht4 hlt hy hdr hym hlk hg htx
   go_upto_region 12 with (first | ((with_reducible refine gate_store (t := 3) (p := 16) rfl ?_); obtain ⟨g_, eg_, _, hsx_⟩ := shV_at HS.out i _ HY.out; injection eg_ with eg_; injection eg_ with eg_; subst eg_; rw [shX] at hsx_; obtain ⟨cs_, t_, hg_, ⟨x0_, h0_⟩, ⟨x1_, h1_⟩, ⟨x2_, h2_⟩, ⟨x3_, h3_⟩, A4_, c4_, h4_, h5_⟩ := hsx_; have hc_ := (blk_cell hg_ (i * 5)).trans h0_; have hf_ := blk_frozen hg_ (i * 5); refine sh_put (j := i * 5) hg_ (.int .i64 t) HG.out (HP.out _ HG.out) HB.out HK.out (KP.int h0_) rfl (t := 3) (p := 16) rfl rfl ?hr_1 ?_; (case hr_1 => first | (go_simp; done) | (go_simp; simp only [World.setCells, Nat.reduceAdd, Nat.zero_add]; done)); intro w2 hp_ hk_ hb_; replace HS := am ((sh_pres hp_ _).2 l (Nat.le_refl _) _ HS.out); replace HPR := am (HPR.out.trans hp_); replace HB := am hb_; replace HK := am hk_; clear hc_ hf_ hp_ hk_ hb_ hg_ h0_ h1_ h2_ h3_ h4_ h5_) | ((with_reducible refine gate_store (t := 3) (p := 23) rfl ?_); obtain ⟨g_, eg_, _, hsx_⟩ := shV_at HS.out i _ HY.out; injection eg_ with eg_; injection eg_ with eg_; subst eg_; rw [shX] at hsx_; obtain ⟨cs_, t_, hg_, ⟨x0_, h0_⟩, ⟨x1_, h1_⟩, ⟨x2_, h2_⟩, ⟨x3_, h3_⟩, A4_, c4_, h4_, h5_⟩ := hsx_; have hc_ := (blk_cell hg_ (i * 5 + 1)).trans h1_; have hf_ := blk_frozen hg_ (i * 5 + 1); refine sh_put (j := i * 5 + 1) hg_ (.int .i64 t1) HG.out (HP.out _ HG.out) HB.out HK.out (KP.int h1_) rfl (t := 3) (p := 23) rfl rfl ?hr_2 ?_; (case hr_2 => first | (go_simp; done) | (go_simp; simp only [World.setCells, Nat.reduceAdd, Nat.zero_add]; done)); intro w2 hp_ hk_ hb_; replace HS := am ((sh_pres hp_ _).2 l (Nat.le_refl _) _ HS.out); replace HPR := am (HPR.out.trans hp_); replace HB := am hb_; replace HK := am hk_; clear hc_ hf_ hp_ hk_ hb_ hg_ h0_ h1_ h2_ h3_ h4_ h5_) | ((with_reducible refine gate_store (t := 3) (p := 30) rfl ?_); obtain ⟨g_, eg_, _, hsx_⟩ := shV_at HS.out i _ HY.out; injection eg_ with eg_; injection eg_ with eg_; subst eg_; rw [shX] at hsx_; obtain ⟨cs_, t_, hg_, ⟨x0_, h0_⟩, ⟨x1_, h1_⟩, ⟨x2_, h2_⟩, ⟨x3_, h3_⟩, A4_, c4_, h4_, h5_⟩ := hsx_; have hc_ := (blk_cell hg_ (i * 5 + 2)).trans h2_; have hf_ := blk_frozen hg_ (i * 5 + 2); refine sh_put (j := i * 5 + 2) hg_ (.int .i64 t2) HG.out (HP.out _ HG.out) HB.out HK.out (KP.int h2_) rfl (t := 3) (p := 30) rfl rfl ?hr_3 ?_; (case hr_3 => first | (go_simp; done) | (go_simp; simp only [World.setCells, Nat.reduceAdd, Nat.zero_add]; done)); intro w2 hp_ hk_ hb_; replace HS := am ((sh_pres hp_ _).2 l (Nat.le_refl _) _ HS.out); replace HPR := am (HPR.out.trans hp_); replace HB := am hb_; replace HK := am hk_; clear hc_ hf_ hp_ hk_ hb_ hg_ h0_ h1_ h2_ h3_ h4_ h5_) | ((with_reducible refine gc 47 rfl ?_); refine gl_ (some 36) rfl rfl Try.func47 #[.int .i64 t3] rfl rfl ?_; (with_reducible refine (laws_markText.calls kt_ t3 rt _ HTX.out).mono ?_); rintro e w2 ⟨rfl, hb⟩; refine ⟨_, rfl, ?_⟩; have hk := kept_below hb; replace HS := am ((sh_pres (Pres.kept hk) _).2 l (Nat.le_refl _) _ HS.out); replace HPR := am (HPR.out.trans (Pres.kept hk)); replace HB := bs HB hb; replace HK := kt HK hk; clear hb hk) | ((with_reducible refine gate_store (t := 9) (p := 38) rfl ?_); obtain ⟨g_, eg_, _, hsx_⟩ := shV_at HS.out i _ HY.out; injection eg_ with eg_; injection eg_ with eg_; subst eg_; rw [shX] at hsx_; obtain ⟨cs_, t_, hg_, ⟨x0_, h0_⟩, ⟨x1_, h1_⟩, ⟨x2_, h2_⟩, ⟨x3_, h3_⟩, A4_, c4_, h4_, h5_⟩ := hsx_; have hc_ := (blk_cell hg_ (i * 5 + 3)).trans h3_; have hf_ := blk_frozen hg_ (i * 5 + 3); refine sh_put (j := i * 5 + 3) hg_ (.string rt) HG.out (HP.out _ HG.out) HB.out HK.out (KP.str h3_) rfl (t := 9) (p := 38) rfl rfl ?hr_4 ?_; (case hr_4 => first | (go_simp; done) | (go_simp; simp only [World.setCells, Nat.reduceAdd, Nat.zero_add]; done)); intro w2 hp_ hk_ hb_; replace HS := am ((sh_pres hp_ _).2 l (Nat.le_refl _) _ HS.out); replace HPR := am (HPR.out.trans hp_); replace HB := am hb_; replace HK := am hk_; clear hc_ hf_ hp_ hk_ hb_ hg_ h0_ h1_ h2_ h3_ h4_ h5_))
   obtain ⟨g_, eg_, _, hsx_⟩ := shV_at HS.out i _ HY.out
   injection eg_ with eg_
   injection eg_ with eg_
   subst eg_
   rw [shX] at hsx_
   obtain ⟨cs_, t_, hg_, ⟨x0_, h0_⟩, ⟨x1_, h1_⟩, ⟨x2_, h2_⟩, ⟨x3_, h3_⟩, A4_, c4_, h4_, h5_⟩ := hsx_
   have hc_ := (blk_cell hg_ (i * 5 + 4)).trans h4_
   have HSK := am h5_
   clear hg_ h0_ h1_ h2_ h3_ h4_ h5_
   go_wp2_with (first | ((with_reducible refine gc 33 rfl ?_); refine gl_ (some 47) rfl rfl Try.func33 #[.slice A4_ ks.length c4_, .int .i64 t4] rfl rfl ?_; (with_reducible refine (HKS.out _ A4_ c4_ t4 HB.out HSK.out).mono ?_); rintro e w2 ⟨rfl, hp_, hb_, hk_⟩; refine ⟨_, rfl, ?_⟩; clear hc_; replace HS := am ((sh_pres hp_ _).2 l (Nat.le_refl _) _ HS.out); replace HPR := am (HPR.out.trans hp_); replace HB := am hb_; replace HK := kl HK hk_; clear hp_ hb_ hk_))
   go_roundg k1
   case measure => omega
   case rel => exact ⟨i + 1, _, rfl, by first | rfl | exact congrArg (Value.int .i64) hwe, ⟨HE2.out.1, HE2.out.2.1⟩, HNX, HS, HPR, HB, HK⟩
  obtain rfl : i = l.length := by have := HX.out; omega
  have u2d : decide ((l.length : Int) < (l.length : Int)) = false := decide_eq_false (by omega)
  have u3d : decide (l.length < l.length) = false := decide_eq_false (by omega)
  have HE := am (show t = r from by have h_ := HR.out; rw [List.drop_eq_nil_of_le (Nat.le_refl _), mkRxL] at h_; exact h_)
  go_wp2
  go_ret
  exact ⟨by rw [← HE.out]; rfl, HPR.out, HB.out, HK.out⟩
mutual
def lenB : S31 → Bool
 | ⟨_, _, _, _, l⟩ => lenBL l && decide (l.length < 4611686018427387904)
def lenBL : List S31 → Bool
 | [] => true
 | x :: l => lenB x && lenBL l
end
theorem lenB_iff : ∀ (N : Nat), (∀ x : S31, SizeOf.sizeOf x ≤ N → lenB x = true → lenX x) ∧ (∀ l : List S31, SizeOf.sizeOf l ≤ N → lenBL l = true → lenL l) := by
 intro N
 induction N with
 | zero => exact ⟨fun t h => by cases t; simp at h, fun l h => by cases l <;> simp at h⟩
 | succ N ih =>
  constructor
  ·
   rintro ⟨a, b, c, s, l⟩ hN h
   rw [lenB, Bool.and_eq_true] at h
   rw [lenX]
   exact ⟨ih.2 l (by simp at hN; omega) h.1, of_decide_eq_true h.2⟩
  intro l hN h
  cases l with
  | nil => rw [lenL]; trivial
  | cons x l =>
   rw [lenBL, Bool.and_eq_true] at h
   rw [lenL]
   exact ⟨ih.1 x (by simp at hN; omega) h.1, ih.2 l (by simp at hN; omega) h.2⟩
def laws_markRx.f (a0_0 a0_1 a0_2 : Int) (a0_3 : ByteArray) (l0_4 : List (S31)) (a1 : Int) : Option Int := if lenBL l0_4 = true ∧ l0_4.length < 4611686018427387904 then some (mkRxL l0_4 a1) else none
theorem laws_markRx.own (P0_ : Nat → Prop) (u9000_ : Value) (a0_0 : Int) (a0_1 : Int) (a0_2 : Int) (a0_3 : ByteArray) (l0_4 : List (S31)) (a1 : Int) (r1 : Int) (w0 w : World) (hB : Below w0.heap.size w0 w) (ho0 : Kd.S k31 31 w w0.heap.size P0_ u9000_ l0_4) (h : laws_markRx.f a0_0 a0_1 a0_2 a0_3 l0_4 a1 = some r1) :
  Calls Try.prog 12 #[.agg #[.int .i64 a0_0, .int .i64 a0_1, .int .i64 a0_2, .string a0_3, u9000_], .int .i64 a1] w fun e w' => e = .returned (.int .i64 r1) ∧ Below w0.heap.size w0 w' ∧ Kept w w' P0_ := by
 unfold laws_markRx.f at h
 by_cases hc : lenBL l0_4 = true ∧ l0_4.length < 4611686018427387904
 ·
  rw [if_pos hc] at h
  obtain rfl := Option.some.inj h
  obtain ⟨A0, c0, rfl⟩ := Kd.S_slice ho0
  have hR := Kd.R_bound (Kd.S_R ho0)
  have hsh := sh_R (P := fun k => P0_ k ∧ w0.heap.size ≤ k ∧ k < w.heap.size) _ l0_4 (Nat.le_refl _) _ A0 _ c0 (fun k hk => ⟨hk.1, hk.2.1, hk.2.2.1⟩) hR
  have HOK := am (fun W h1 h2 => laws_markRxS.ok w0 (fun k => P0_ k ∧ w0.heap.size ≤ k ∧ k < w.heap.size) (fun k hk => hk.2.1) _ l0_4 (Nat.le_refl _) hc.2 ((lenB_iff _).2 l0_4 (Nat.le_refl _) hc.1) W A0 c0 a1 h1 h2)
  have HS := am hsh
  have HB := am hB
  have HK := am (Kept.refl w P0_)
  have hu := Try.underlying31
  clear h hc ho0 hR hsh hB
  go_enter Try.func12, Try.ntmps12
  go_wp2_with (first | ((with_reducible refine gd 2 rfl ?_); refine box_event ?hg (N := 2) ?hd (cs := #[.int .i64 a0_0, .int .i64 a0_1, .int .i64 a0_2, .string a0_3, .slice A0 l0_4.length c0]) (t := 31) ?hr ?_; (case hd => rfl); (case hg => rfl); (case hr => first | (go_simp; done) | (go_simp; rfl)); intro gX hg w2 hbox hb; have hk := kept_below hb; replace HS := am ((sh_pres (Pres.kept hk) _).2 l0_4 (Nat.le_refl _) _ HS.out); replace HB := bs HB hb; replace HK := kt HK hk; have hx4 := (blk_cell hbox 4).trans (show _ = some (.slice A0 l0_4.length c0) from rfl); clear hb hk hg) | ((with_reducible refine gc 33 rfl ?_); refine gl_ (some 8) rfl rfl Try.func33 #[.slice A0 l0_4.length c0, .int .i64 a1] rfl rfl ?_; (with_reducible refine (HOK.out _ HB.out HS.out).mono ?_); rintro e w2 ⟨rfl, hp_, hb_, hk_⟩; refine ⟨_, rfl, ?_⟩; replace HB := am hb_; replace HK := am (HK.out.then_ hk_ (fun _ h_ => .inl h_.1))))
  go_ret
  exact ⟨rfl, HB.out, HK.out⟩
 rw [if_neg hc] at h
 exact absurd h (by simp)
end
section
open Go.Proofs.Ytlpabbcgichaoaa.Lawful
theorem laws_toRx.own (a0_0 : Int) (a0_1 : Int) (a0_2 : Int) (a0_3 : ByteArray) (A0_4 : Option Addr) (c0_4 : Nat) (l0_4 : List (S24)) (r1 : Int) (r2 : Int) (r3 : Int) (r4 : ByteArray) (r5 : List (S31)) (w : World) (hr0_4 : Kd.C k24 w A0_4 l0_4.length l0_4) (hc0_4 : l0_4.length ≤ c0_4) (h : laws_toRx.f a0_0 a0_1 a0_2 a0_3 l0_4 = some (r1, r2, r3, r4, r5)) :
  Calls Try.prog 8 #[.agg #[.int .i64 a0_0, .int .i64 a0_1, .int .i64 a0_2, .string a0_3, .slice A0_4 l0_4.length c0_4]] w fun e w' => ∃ v4_ : Value, e = .returned (.agg #[.int .i64 r1, .int .i64 r2, .int .i64 r3, .string r4, v4_]) ∧ Kd.S k31 31 w' w.heap.size (fun _ => True) v4_ r5 ∧ Below w.heap.size w w' := by
 exact laws_toRx.callsS a0_0 a0_1 a0_2 a0_3 A0_4 c0_4 l0_4 r1 r2 r3 r4 r5 w hr0_4 hc0_4 h
end
theorem laws_markIntS.own (k : Nat) (P0_ : Nat → Prop) (u9000_ : Value) (l0 : List Int) (a1 : Int) (r1 : Int) (r2 : List Int) (w0 w : World) (hB : Below w0.heap.size w0 w) (ho0 : Kd.R (Kd.int .i64) 3 w w0.heap.size P0_ u9000_ l0) (h : laws_markIntS.f k l0 a1 = some (r1, r2)) :
  Calls Try.prog 13 #[u9000_, .int .i64 a1] w fun e w' => e = .returned (.int .i64 r1) ∧ Kd.R (Kd.int .i64) 3 w' w0.heap.size P0_ u9000_ r2 ∧ Below w0.heap.size w0 w' ∧ Kept w w' P0_ :=
 (laws_markIntS.calls k P0_ u9000_ l0 a1 r1 r2 w0 w hB ho0 h).mono fun e w' ⟨he, ho, hb, hk⟩ => ⟨he, Kd.R_mono (Kd.R_tight rfl ho) (fun k hk => ho0.1 k hk.symm), hb, hk⟩

end Go.Proofs.Ytlpabbcgichaoaa.PFnExactFind
