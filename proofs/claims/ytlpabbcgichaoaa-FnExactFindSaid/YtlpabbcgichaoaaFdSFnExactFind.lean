/- The reference's l06Find. -/
import Derived.Test.YtlpabbcgichaoaaM1FnExactFind
import Derived.Test.YtlpabbcgichaoaaSpAFnExactFind
import Derived.Test.YtlpabbcgichaoaaWWords
namespace Go.Proofs.Ytlpabbcgichaoaa.PFnExactFind
open Go.RowKit Go.Proofs.Ytlpabbcgichaoaa.Lawful Go.Proofs.YtlpabbcgichaoaaW.PrintWords Go.Proofs.YtlpabbcgichaoaaW.PrintLast Go.Proofs.YtlpabbcgichaoaaW.PrintMore
attribute [local go_sem] max2_int min2_int max_two min_two max_three min_three max_four min_four
set_option maxHeartbeats 16000000
set_option maxRecDepth 100000
set_option linter.unusedVariables false
set_option linter.unusedSimpArgs false
section
open Go.Proofs.Ytlpabbcgichaoaa.Lawful
@[reducible] def l06Find.Post (w : World) (r : List Int) (e : Ending) (w' : World) : Prop := ∃ (v : Value) (P : Nat → Prop), e = .returned v ∧ LR (Kd.int .i64) 3 w' w.heap.size P v r ∧ Below w.heap.size w w'
theorem spec_l06Find (w : World) (x0 x1 x2 : Int) (x3 : ByteArray) (x4 : List S31) (A4 : Option Addr) (c4 : Nat) (T : ByteArray) (p0 : Nat) (hr : Kd.C k31 w A4 x4.length x4) (hc : x4.length ≤ c4) (hw : rxW ⟨x0, x1, x2, x3, x4⟩) (hn : cnt ⟨x0, x1, x2, x3, x4⟩ ≤ 2000) (hs : rxT ⟨x0, x1, x2, x3, x4⟩) (hT : T.size ≤ 120) (hp : p0 ≤ T.size) (kg gs : Nat) (hgs : spec_l05Groups.f kg x0 x1 x2 x3 x4 = some (gs : Int)) (hgg : grB (mk ⟨x0, x1, x2, x3, x4⟩ []).1 gs = true) (hg9 : gs ≤ 1000) :
  Calls Try.prog 24 #[.agg #[.int .i64 x0, .int .i64 x1, .int .i64 x2, .string x3, .slice A4 x4.length c4], .string T, .int .i64 (p0 : Int)] w (l06Find.Post w (findL (mat (fun i => bt T (i : Int)) T.size ⟨x0, x1, x2, x3, x4⟩) (sp (fun i => bt T (i : Int)) T.size ⟨x0, x1, x2, x3, x4⟩) gs T.size p0)) := by
 have hu3 := Try.underlying31
 have HR := am hr
 have HC := am hc
 have HB := am (Below.refl w.heap.size w)
 have HM := am (fun (ws : World) hb => spec_Machine1 w ws ⟨x0, x1, x2, x3, x4⟩ T A4 c4 hb HR.out HC.out hw hn hs hT)
 try dsimp only at HM
 have HGR := am (grB_iff.1 hgg)
 have E1 := am hgs
 have SZ := am (show T.size ≤ 120 ∧ p0 ≤ T.size ∧ gs ≤ 1000 from ⟨hT, hp, hg9⟩)
 clear hr hc hw hn hs hT hp hgs hgg hg9
 obtain ⟨r, hr⟩ : ∃ r_, r_ = findL (mat (fun i => bt T (i : Int)) T.size (⟨x0, x1, x2, x3, x4⟩ : S31)) (sp (fun i => bt T (i : Int)) T.size (⟨x0, x1, x2, x3, x4⟩ : S31)) gs T.size p0 := ⟨_, rfl⟩
 rw [← hr]
 have HRS := am hr
 clear hr
 go_enter Try.func24, Try.ntmps24
 go_wp2_with (first | ((with_reducible refine gd 3 rfl ?_); refine bx_ (N := 3) (cs := #[.int .i64 x0, .int .i64 x1, .int .i64 x2, .string x3, .slice A4 x4.length c4]) (t := 31) rfl rfl ?hr_1 ?_; (case hr_1 => first | (go_simp; done) | (go_simp; rfl)); intro gX1 hg w2 hb hk PX1 hPX1 HX1; have GEX1 := ge_ hg HB; replace HB := bs HB hb; clear hb hk hg hPX1; replace jX1 := HX1.out.c5) | ((with_reducible refine gc 36 rfl ?_); refine gl_ (some 16) rfl rfl Try.func36 #[.agg #[.int .i64 x0, .int .i64 x1, .int .i64 x2, .string x3, .slice A4 x4.length c4], .string T] rfl rfl ?_; (with_reducible refine (HM.out _ HB.out).mono ?_); rintro e w2 ⟨⟨PG, PN, PK, gG, gK, BN, DN, L, cK, ns, T2, den, spf⟩, rfl, hok_, hT_, hns_, hst_, ⟨kn, hAt_, hRB_⟩, hg1_, hg2_, hg3_, hkk_⟩; refine ⟨_, rfl, ?_⟩; dsimp only at hT_; replace hT_ := hT_.symm; subst hT_; dsimp only at hns_ hst_ hAt_ hRB_ hg1_ hg2_ hg3_; have D_X1_G := am (show ∀ k, PX1 k → ¬ PG k from fun k a_ b_ => absurd (HX1.out.lt k a_) (by have := hg1_ k b_; omega)); have D_X1_N := am (show ∀ k, PX1 k → ¬ PN k from fun k a_ b_ => absurd (HX1.out.lt k a_) (by have := hg2_ k b_; omega)); have D_X1_Y := am (show ∀ k, PX1 k → ¬ PK k from fun k a_ b_ => absurd (HX1.out.lt k a_) (by have := hg3_ k b_; omega)); replace HX1 := sn hkk_ HX1; have HOK := am hok_; have D_G_Y := am hok_.2.2.2.1; have D_N_Y := am hok_.2.2.2.2.1; dsimp only at D_G_Y D_N_Y; obtain ⟨hb_, hG_, hN_, hY_⟩ := hAt_; dsimp only at hb_ hG_ hN_ hY_; have HB2 := am hb_; clear HB; have HB := HB2; clear HB2; have HG := am hG_; have HN := am hN_; have HY := am hY_; have HST := am hst_; have HNS := am hns_; have HRBA := am hRB_; clear hb_ hG_ hN_ hY_ hok_ hst_ hns_ hRB_ hg1_ hg2_ hg3_ hkk_; replace jX1 := HX1.out.c5; replace jG := HG.out.c3))
 obtain ⟨M, hM⟩ : ∃ M, ∀ q i j, q < ns.length → i ≤ j → j ≤ T.size → mu T.size q i j < M := ⟨_, fun q i j h1 _ h3 => mu_max h1 h3⟩
 have HMU := am hM
 have HRB := am (HRBA.out M)
 clear hM HRBA
 have HAN := am (spec_any ⟨PG, PN, PK, gG, gK, BN, DN, L, cK, ns, T, den, spf⟩ w HOK.out)
 have HSP := am (spec_spans ⟨PG, PN, PK, gG, gK, BN, DN, L, cK, ns, T, den, spf⟩ w HOK.out M HMU.out ((mk (⟨x0, x1, x2, x3, x4⟩ : S31) []).2 + 1))
 have HR0 := am HST.out.1
 try dsimp only at HR0
 go_wp2
 go_loopg [9] (T.size + 2 - p0) (fun kq v9 w' => ∃ (p : Nat) (kn1 : List Int), v9 = .int .i64 (p : Int) ∧ Aside0 (p + kq = T.size + 2 ∧ p ≤ T.size + 1) ∧ Aside0 (findFrom (mat (fun i => bt T (i : Int)) T.size (⟨x0, x1, x2, x3, x4⟩ : S31)) T.size (T.size + 1 - p) p = findFrom (mat (fun i => bt T (i : Int)) T.size (⟨x0, x1, x2, x3, x4⟩ : S31)) T.size (T.size + 1 - p0) p0) ∧ Aside0 (Below w.heap.size w w') ∧ Aside0 (LB w' PG gG 82 #[.slice BN ns.length DN, .string T, .slice (some ⟨gK, 0, none⟩) L cK]) ∧ Aside0 (LN k85 85 w' w.heap.size PN (.slice BN ns.length DN) ns) ∧ Aside0 (LR (Kd.int .u8) 5 w' w.heap.size PK (.slice (some ⟨gK, 0, none⟩) L cK) kn1) ∧ Aside0 (RB den ns.length T.size kn1 M) ∧ Aside0 (LB w' PX1 gX1 31 #[.int .i64 x0, .int .i64 x1, .int .i64 x2, .string x3, .slice A4 x4.length c4]))
 case atStart => exact ⟨p0, kn, rfl, ⟨by have := SZ.out; omega⟩, ⟨rfl⟩, HB, HG, HN, HY, HRB, HX1⟩
 case round =>
  clear HB HG HN HY HRB HX1
  obtain ⟨p, kn1, rfl, HP, HFF, HB, HG, HN, HY, HRB, HX1⟩ := hrel
  by_cases hlt : p ≤ T.size
  ·
   obtain ⟨k1, rfl⟩ : ∃ k_, gk = k_ + 1 := ⟨gk - 1, by have := HP.out; omega⟩
   have cb1 : decide ((p : Int) ≤ (T.size : Int)) = true := decide_eq_true (by omega)
   have cb2 : decide (p ≤ T.size) = true := decide_eq_true hlt
   have HPT := am hlt
   clear hlt
   have hwp : wrap64 ((p : Int) + 1) = ((p + 1 : Nat) : Int) := wrap_nat rfl (by have := SZ.out; have := HPT.out; omega)
   have hwpk : IntKind.i64.wrap ((p : Int) + 1) = ((p + 1 : Nat) : Int) := (i64_w _).trans hwp
   replace jX1 := HX1.out.c5
   replace jG := HG.out.c3
   go_wp2
   go_loopg [10] (T.size + 2 - p) (fun kq v10 w' => ∃ (t : Nat) (z : Int) (kn1 : List Int), v10 = .int .i64 z ∧ Aside0 (z = (t : Int) - 1) ∧ Aside0 (t + 1 = kq + p ∧ p ≤ t ∧ t ≤ T.size + 1) ∧ Aside0 (∀ q, t ≤ q → q ≤ T.size → (mat (fun i => bt T (i : Int)) T.size (⟨x0, x1, x2, x3, x4⟩ : S31)) p q = false) ∧ Aside0 (Below w.heap.size w w') ∧ Aside0 (LB w' PG gG 82 #[.slice BN ns.length DN, .string T, .slice (some ⟨gK, 0, none⟩) L cK]) ∧ Aside0 (LN k85 85 w' w.heap.size PN (.slice BN ns.length DN) ns) ∧ Aside0 (LR (Kd.int .u8) 5 w' w.heap.size PK (.slice (some ⟨gK, 0, none⟩) L cK) kn1) ∧ Aside0 (RB den ns.length T.size kn1 M) ∧ Aside0 (LB w' PX1 gX1 31 #[.int .i64 x0, .int .i64 x1, .int .i64 x2, .string x3, .slice A4 x4.length c4]))
   case atStart => exact ⟨T.size + 1, _, kn1, rfl, ⟨by omega⟩, ⟨by have := HPT.out; omega⟩, ⟨fun q h1 h2 => by omega⟩, HB, HG, HN, HY, HRB, HX1⟩
   case round =>
    clear HB HG HN HY HRB HX1
    obtain ⟨t, z, kn2, rfl, HZ, HT, HNO, HB, HG, HN, HY, HRB, HX1⟩ := hrel
    by_cases hlt : p < t
    ·
     obtain ⟨q, rfl⟩ : ∃ q, t = q + 1 := ⟨t - 1, by omega⟩
     obtain ⟨k2, rfl⟩ : ∃ k_, gk = k_ + 1 := ⟨gk - 1, by have := HT.out; omega⟩
     obtain rfl : z = (q : Int) := by have := HZ.out; omega
     have HQ := am (show p ≤ q ∧ q ≤ T.size from by have := HT.out; omega)
     have cb3 : decide ((p : Int) ≤ (q : Int)) = true := decide_eq_true (by omega)
     have cb4 : decide (p ≤ q) = true := decide_eq_true (by omega)
     have hw1 : wrap64 ((q : Int) - 1) = (q : Int) - 1 := by have := SZ.out; have := HQ.out; unfold wrap64; omega
     have hw1k : IntKind.i64.wrap ((q : Int) - 1) = (q : Int) - 1 := (i64_w _).trans hw1
     clear hlt
     have IC := am (show ∀ (kn' : List Int) (ws' : World), l06E.At ⟨PG, PN, PK, gG, gK, BN, DN, L, cK, ns, T, den, spf⟩ w ws' kn' → RB den ns.length T.size kn' M → _ from fun kn' ws' h1 h2 => HAN.out M M _ p q kn' ws' (HMU.out _ _ _ HR0.out HQ.out.1 HQ.out.2) (HMU.out _ _ _ HR0.out HQ.out.1 HQ.out.2) HR0.out HQ.out.1 HQ.out.2 h1 h2)
     try dsimp only at IC
     have HDM := am (HST.out.2.1 p q HQ.out.1)
     try dsimp only at HDM
     rcases hA : den (mk (⟨x0, x1, x2, x3, x4⟩ : S31) []).2 p q with _ | _
     ·
      rw [hA] at IC
      replace jX1 := HX1.out.c5
      replace jG := HG.out.c3
      go_wp2_with (first | ((with_reducible refine gc 37 rfl ?_); refine gl_ (some 37) rfl rfl Try.func37 #[.pointer (some ⟨gG, 0, none⟩), .int .i64 ((mk (⟨x0, x1, x2, x3, x4⟩ : S31) []).2 : Int), .int .i64 (p : Int), .int .i64 (q : Int)] rfl rfl ?_; (with_reducible refine (IC.out _ _ ⟨HB.out, HG.out, HN.out, HY.out⟩ HRB.out).mono ?_); rintro e w2 ⟨kn3, rfl, hst_, ⟨hb_, hg_, hn_, hk_⟩, hkk_⟩; refine ⟨_, rfl, ?_⟩; dsimp only at hst_ hb_ hg_ hn_ hk_ hkk_; replace HX1 := ss hkk_ HX1 D_X1_Y.out; replace HB := am hb_; replace HG := am hg_; replace HN := am hn_; replace HY := am hk_; replace HRB := am (St.rb hst_); clear hb_ hg_ hn_ hk_ hkk_ hst_; replace jX1 := HX1.out.c5; replace jG := HG.out.c3))
      go_roundg k2
      case measure => have := HT.out; omega
      case rel => exact ⟨q, _, _, rfl, ⟨by first | rfl | exact hw1⟩, ⟨by have := HT.out; have := HQ.out; omega⟩, ⟨fun q' h1 h2 => by rcases Nat.eq_or_lt_of_le h1 with h3 | h3; (subst h3; exact HDM.out.symm.trans hA); exact HNO.out q' h3 h2⟩, HB, HG, HN, HY, HRB, HX1⟩
     rw [hA] at IC
     replace jX1 := HX1.out.c5
     replace jG := HG.out.c3
     obtain ⟨y1, hy1⟩ : ∃ y_ : List Int, y_ = [(p : Int), (q : Int)] := ⟨_, rfl⟩
     have Ny1 := am hy1
     clear hy1
     have HHE := am (findFrom_here HQ.out.1 HQ.out.2 (HDM.out.symm.trans hA) HNO.out)
     have HDT := am hA
     go_wp2_with (first | ((with_reducible refine gc 37 rfl ?_); refine gl_ (some 37) rfl rfl Try.func37 #[.pointer (some ⟨gG, 0, none⟩), .int .i64 ((mk (⟨x0, x1, x2, x3, x4⟩ : S31) []).2 : Int), .int .i64 (p : Int), .int .i64 (q : Int)] rfl rfl ?_; (with_reducible refine (IC.out _ _ ⟨HB.out, HG.out, HN.out, HY.out⟩ HRB.out).mono ?_); rintro e w2 ⟨kn3, rfl, hst_, ⟨hb_, hg_, hn_, hk_⟩, hkk_⟩; refine ⟨_, rfl, ?_⟩; dsimp only at hst_ hb_ hg_ hn_ hk_ hkk_; replace HX1 := ss hkk_ HX1 D_X1_Y.out; replace HB := am hb_; replace HG := am hg_; replace HN := am hn_; replace HY := am hk_; replace HRB := am (St.rb hst_); clear hb_ hg_ hn_ hk_ hkk_ hst_; replace jX1 := HX1.out.c5; replace jG := HG.out.c3) | ((with_reducible refine gd 40 rfl ?_); refine Kd.R_lit (Kd.int .i64) _ 3 ?hg_2 (N := 40) ?hd_2 (xs := [(p : Int), (q : Int)]) (inner := [.int .i64 (p : Int), .int .i64 (q : Int)]) (ok := fun _ => True) (okp := fun _ => True) ?hr_2 ?hp_2 (fun _ hk => hk) trivial (Below.refl _ _) (Nat.le_refl _) (by simp) ?_; (case hd_2 => rfl); (case hg_2 => rfl); (case hr_2 => first | (go_simp; done) | (go_simp; rfl)); (case hp_2 => exact (Reps.one (show Kd.M (Kd.int .i64) _ _ _ (p : Int) [.int .i64 (p : Int)] from rfl) (Reps.one (show Kd.M (Kd.int .i64) _ _ _ (q : Int) [.int .i64 (q : Int)] from rfl) (Reps.none _ _)))); intro vF2 w2 hrF2 hb hg_ hnew_; clear hg_ hnew_; rw [← Ny1.out] at hrF2; have hk := kept_below hb; obtain ⟨PF2, hPF2, HLF2⟩ := LR.fresh rfl HB.out hrF2; have HF2 := am HLF2; clear HLF2 hrF2; have D_X1_F2 := na hPF2 HX1; have D_N_F2 := nl hPF2 HN.out.lt; have D_Y_F2 := nl hPF2 HY.out.lt; have D_G_F2 := na hPF2 HG; replace HX1 := sn hk HX1; replace HN := nn hk HN; replace HY := rn hk HY; replace HG := sn hk HG; clear hPF2; obtain ⟨BF2, DF2, e_F2⟩ := HF2.out.val; subst e_F2; replace HB := bs HB hb; clear hb hk; replace jX1 := HX1.out.c5; replace jG := HG.out.c3) | ((with_reducible refine gc 40 rfl ?_); refine goesL_ (some 42) rfl rfl Try.func40 (by kernel_rfl) rfl #[.agg #[.int .i64 x0, .int .i64 x1, .int .i64 x2, .string x3, .slice A4 x4.length c4]] rfl tA ?_; (with_reducible refine (spec_l05Groups.calls kg x0 x1 x2 x3 _ _ x4 (gs : Int) _ (Kd.C_below HR.out HB.out) HC.out E1.out).mono ?_); rintro e w2 ⟨rfl, hb⟩; refine ⟨_, rfl, ?_⟩; have hk := kept_below hb; replace HX1 := sn hk HX1; replace HN := nn hk HN; replace HY := rn hk HY; replace HG := sn hk HG; replace HF2 := rn hk HF2; replace HB := bs HB hb; clear hb hk; replace jX1 := HX1.out.c5; replace jG := HG.out.c3))
     go_loopg [11, 12] (gs + 1) (fun kq v11 v12 w' => ∃ (c : Nat) (z : Int) (y : List Int) (kn1 : List Int) (P1 : Nat → Prop), v12 = .int .i64 z ∧ Aside0 (z + (c : Int) = (gs : Int)) ∧ Aside0 (c + kq = gs + 1 ∧ c ≤ gs) ∧ Aside0 (y = (p : Int) :: (q : Int) :: List.replicate (2 * c) (-1)) ∧ Aside0 (Below w.heap.size w w') ∧ Aside0 (LB w' PG gG 82 #[.slice BN ns.length DN, .string T, .slice (some ⟨gK, 0, none⟩) L cK]) ∧ Aside0 (LN k85 85 w' w.heap.size PN (.slice BN ns.length DN) ns) ∧ Aside0 (LR (Kd.int .u8) 5 w' w.heap.size PK (.slice (some ⟨gK, 0, none⟩) L cK) kn1) ∧ Aside0 (RB den ns.length T.size kn1 M) ∧ Aside0 (LB w' PX1 gX1 31 #[.int .i64 x0, .int .i64 x1, .int .i64 x2, .string x3, .slice A4 x4.length c4]) ∧ Aside0 (LR (Kd.int .i64) 3 w' w.heap.size P1 v11 y) ∧ Aside0 (∀ k_, PX1 k_ → ¬ P1 k_) ∧ Aside0 (∀ k_, PG k_ → ¬ P1 k_) ∧ Aside0 (∀ k_, PN k_ → ¬ P1 k_) ∧ Aside0 (∀ k_, PK k_ → ¬ P1 k_))
     case atStart => exact ⟨0, _, y1, _, PF2, rfl, ⟨by omega⟩, ⟨by omega⟩, ⟨by rw [Ny1.out]; rfl⟩, HB, HG, HN, HY, HRB, HX1, HF2, D_X1_F2, D_G_F2, D_N_F2, D_Y_F2⟩
     case round =>
      clear HB HG HN HY HRB HX1 HF2 Ny1
      obtain ⟨c, z, y, kn4, P1, rfl, HZ, HC1, HY1, HB, HG, HN, HY, HRB, HX1, H1, D_X1_1, D_G_1, D_N_1, D_Y_1⟩ := hrel
      obtain ⟨B1, D1, e_1⟩ := H1.out.val
      subst e_1
      have HYL := am (show y.length = 2 * c + 2 from by rw [HY1.out]; simp)
      by_cases hlt : c < gs
      ·
       obtain ⟨k3, rfl⟩ : ∃ k_, gk = k_ + 1 := ⟨gk - 1, by have := HC1.out; omega⟩
       have cb5 : decide (z > 0) = true := decide_eq_true (by have := HZ.out; omega)
       have cb6 : decide (0 < z) = true := cb5
       have hw2 : wrap64 (z - 1) = z - 1 := by have := SZ.out; have := HZ.out; have := HC1.out; unfold wrap64; omega
       have hw2k : IntKind.i64.wrap (z - 1) = z - 1 := (i64_w _).trans hw2
       obtain ⟨y2, hy2⟩ : ∃ y_ : List Int, y_ = [(-1 : Int), (-1 : Int)] := ⟨_, rfl⟩
       have Ny2 := am hy2
       have hl2 : y2.length = 2 := by rw [hy2]; rfl
       have HL2 := am hl2
       clear hy2 hl2
       obtain ⟨y3, hy3⟩ : ∃ y_ : List Int, y_ = y ++ y2 := ⟨_, rfl⟩
       have Ny3 := am hy3
       clear hy3
       replace jX1 := HX1.out.c5
       replace jG := HG.out.c3
       go_wp2_with (first | ((with_reducible refine gd 48 rfl ?_); refine Kd.R_lit (Kd.int .i64) _ 3 ?hg_3 (N := 48) ?hd_3 (xs := [(-1 : Int), (-1 : Int)]) (inner := [.int .i64 (-1), .int .i64 (-1)]) (ok := fun _ => True) (okp := fun _ => True) ?hr_3 ?hp_3 (fun _ hk => hk) trivial (Below.refl _ _) (Nat.le_refl _) (by simp) ?_; (case hd_3 => rfl); (case hg_3 => rfl); (case hr_3 => first | (go_simp; done) | (go_simp; rfl)); (case hp_3 => exact (Reps.one (show Kd.M (Kd.int .i64) _ _ _ (-1 : Int) [.int .i64 (-1)] from rfl) (Reps.one (show Kd.M (Kd.int .i64) _ _ _ (-1 : Int) [.int .i64 (-1)] from rfl) (Reps.none _ _)))); intro vF3 w2 hrF3 hb hg_ hnew_; clear hg_ hnew_; rw [← Ny2.out] at hrF3; have hk := kept_below hb; obtain ⟨PF3, hPF3, HLF3⟩ := LR.fresh rfl HB.out hrF3; have HF3 := am HLF3; clear HLF3 hrF3; have D_X1_F3 := na hPF3 HX1; have D_N_F3 := nl hPF3 HN.out.lt; have D_Y_F3 := nl hPF3 HY.out.lt; have D_G_F3 := na hPF3 HG; have D_1_F3 := nl hPF3 H1.out.lt; replace HX1 := sn hk HX1; replace HN := nn hk HN; replace HY := rn hk HY; replace HG := sn hk HG; replace H1 := rn hk H1; clear hPF3; obtain ⟨BF3, DF3, e_F3⟩ := HF3.out.val; subst e_F3; replace HB := bs HB hb; clear hb hk; replace jX1 := HX1.out.c5; replace jG := HG.out.c3) | ((with_reducible refine gate_builtin (b := .append) (xs := #[.tmp 47, .tmp 48]) rfl ?_); at_builtin; refine LR.append_read (Kd.int .i64) (w0 := w) rfl (.tmp 47) (.tmp 48) 26 3 (.int .i64 0) 8 rfl Try.underlying26 info3 rfl (by decide) (by omega) (.slice B1 y.length D1) y y2 _ _ _ rfl rfl (fun _ _ h_ => h_) H1.out HF3.out.reads HB.out ?aL_4 ?_; (case aL_4 => have h1 := HYL.out; have h2 := HL2.out; have h3 := SZ.out; have h4 := HC1.out; omega); intro PF4 v_ w2 HL hb hk hR; have D_X1_F4 := ax hR HX1.out.lt D_X1_1; have D_N_F4 := ax hR HN.out.lt D_N_1; have D_Y_F4 := ax hR HY.out.lt D_Y_1; have D_G_F4 := ax hR HG.out.lt D_G_1; have D_F3_F4 := ay hR HF3.out.lt D_1_F3; replace HX1 := ss hk HX1 D_X1_1.out; replace HN := ns_ hk HN D_N_1.out; replace HY := rs hk HY D_Y_1.out; replace HG := ss hk HG D_G_1.out; replace HF3 := rs hk HF3 (apart_symm D_1_F3.out); rw [← Ny3.out] at HL; have HF4 := am HL; replace HB := am hb; clear hR HL hb hk; clear H1; obtain ⟨BF4, DF4, e_F4⟩ := HF4.out.val; subst e_F4; replace jX1 := HX1.out.c5; replace jG := HG.out.c3))
       go_roundg k3
       case measure => have := HC1.out; omega
       case rel => exact ⟨c + 1, z - 1, y3, _, PF4, by first | rfl | rw [hw2], ⟨by have := HZ.out; omega⟩, ⟨by have := HC1.out; omega⟩, ⟨by rw [Ny3.out, Ny2.out, HY1.out]; exact rep_more _ _ _⟩, HB, HG, HN, HY, HRB, HX1, HF4, D_X1_F4, D_G_F4, D_N_F4, D_Y_F4⟩
      obtain rfl : c = gs := by have := HC1.out; omega
      obtain rfl : z = 0 := by have := HZ.out; omega
      have cb5 : decide ((0 : Int) > 0) = false := rfl
      clear hlt
      obtain ⟨gO, cq_, he_, _, _, _⟩ := Kd.R_form H1.out.1 (by have := HYL.out; omega)
      injection he_ with ea_ el_ ec_
      subst ea_ ec_
      clear el_
      have HGG := am (show l06E.Gr ⟨PG, PN, PK, gG, gK, BN, DN, L, cK, ns, T, den, spf⟩ y.length from ⟨by have := HYL.out; have := SZ.out; omega, fun q y_ hq h6 => by have h_ := HGR.out q y_ (by rw [← HNS.out]; exact hq) h6; have := HYL.out; omega⟩)
      have HYS := am (show spf (mk (⟨x0, x1, x2, x3, x4⟩ : S31) []).2 p q y = r from by rw [HRS.out]; unfold findL; rw [← HFF.out, HHE.out]; dsimp only; rw [← HY1.out]; exact HST.out.2.2 p q y HQ.out.1 HDT.out)
      have IP := am (show ∀ (kn' : List Int) (ws' : World), l06E.At ⟨PG, PN, PK, gG, gK, BN, DN, L, cK, ns, T, den, spf⟩ w ws' kn' → RB den ns.length T.size kn' M → LR (Kd.int .i64) 3 ws' w.heap.size P1 (.slice (some ⟨gO, 0, none⟩) y.length D1) y → _ from fun kn' ws' h1 h2 h3 => HSP.out _ p q kn' ws' P1 gO y.length D1 y (Nat.lt_succ_self _) HR0.out HQ.out.1 HQ.out.2 HDT.out HGG.out h1 h2 h3 D_G_1.out D_N_1.out D_Y_1.out)
      try dsimp only at IP
      rw [HYS.out] at IP
      replace jX1 := HX1.out.c5
      replace jG := HG.out.c3
      go_wp2_with (first | ((with_reducible refine gc 41 rfl ?_); refine gl_ (some 55) rfl rfl Try.func41 #[.pointer (some ⟨gG, 0, none⟩), .int .i64 ((mk (⟨x0, x1, x2, x3, x4⟩ : S31) []).2 : Int), .int .i64 (p : Int), .int .i64 (q : Int), .slice (some ⟨gO, 0, none⟩) y.length D1] rfl rfl ?_; (with_reducible refine (IP.out _ _ ⟨HB.out, HG.out, HN.out, HY.out⟩ HRB.out H1.out).mono ?_); rintro e w2 ⟨kn5, rfl, hr_, ⟨hb_, hg_, hn_, hk_⟩, ho_, hkk_⟩; refine ⟨_, rfl, ?_⟩; dsimp only at hr_ hb_ hg_ hn_ hk_ ho_ hkk_; replace HB := am hb_; clear H1; have H1 := am ho_; clear hb_ hg_ hn_ hk_ hkk_ hr_ ho_))
      go_ret
      exact ⟨_, P1, rfl, H1.out, HB.out⟩
    obtain rfl : t = p := by have := HT.out; omega
    obtain rfl : z = (t : Int) - 1 := HZ.out
    have cb3 : decide ((t : Int) ≤ (t : Int) - 1) = false := decide_eq_false (by omega)
    have HFS := am ((findFrom_step HPT.out HNO.out).symm.trans HFF.out)
    replace jX1 := HX1.out.c5
    replace jG := HG.out.c3
    go_wp2
    go_roundg k1
    case measure => have := HP.out; omega
    case rel => exact ⟨t + 1, _, rfl, ⟨by have := HP.out; have := HPT.out; omega⟩, HFS, HB, HG, HN, HY, HRB, HX1⟩
  obtain rfl : p = T.size + 1 := by have := HP.out; omega
  have cb1 : decide (((T.size + 1 : Nat) : Int) ≤ (T.size : Int)) = false := decide_eq_false (by omega)
  have cb2 : decide ((T.size : Int) + 1 ≤ (T.size : Int)) = false := decide_eq_false (by omega)
  have HEN := am (show r = [] from by rw [HRS.out]; unfold findL; rw [← HFF.out, findFrom_end (Nat.lt_succ_self _)])
  obtain ⟨y1, hy1⟩ : ∃ y_ : List Int, y_ = [] := ⟨_, rfl⟩
  have Ny1 := am hy1
  clear hy1
  replace jX1 := HX1.out.c5
  replace jG := HG.out.c3
  go_wp2_with (first | ((with_reducible refine gd 57 rfl ?_); refine Kd.R_lit (Kd.int .i64) _ 3 ?hg_5 (N := 57) ?hd_5 (xs := []) (inner := []) (ok := fun _ => True) (okp := fun _ => True) ?hr_5 ?hp_5 (fun _ hk => hk) trivial (Below.refl _ _) (Nat.le_refl _) (by simp) ?_; (case hd_5 => rfl); (case hg_5 => rfl); (case hr_5 => first | (go_simp; done) | (go_simp; rfl)); (case hp_5 => exact (Reps.none _ _)); intro vF5 w2 hrF5 hb hg_ hnew_; clear hg_ hnew_; rw [← Ny1.out] at hrF5; have hk := kept_below hb; obtain ⟨PF5, hPF5, HLF5⟩ := LR.fresh rfl HB.out hrF5; have HF5 := am HLF5; clear HLF5 hrF5; have D_X1_F5 := na hPF5 HX1; have D_N_F5 := nl hPF5 HN.out.lt; have D_Y_F5 := nl hPF5 HY.out.lt; have D_G_F5 := na hPF5 HG; replace HX1 := sn hk HX1; replace HN := nn hk HN; replace HY := rn hk HY; replace HG := sn hk HG; clear hPF5; obtain ⟨BF5, DF5, e_F5⟩ := HF5.out.val; subst e_F5; replace HB := bs HB hb; clear hb hk; replace jX1 := HX1.out.c5; replace jG := HG.out.c3))
  go_ret
  have h1_ := HF5.out
  exact ⟨_, _, rfl, (by rw [HEN.out]; rw [Ny1.out] at h1_ ⊢; exact h1_), HB.out⟩
end
end Go.Proofs.Ytlpabbcgichaoaa.PFnExactFind
