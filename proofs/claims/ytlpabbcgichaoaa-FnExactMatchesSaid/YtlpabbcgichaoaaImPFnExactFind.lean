/- The program's matcher: what is left of a node (onward). -/
import Derived.Test.YtlpabbcgichaoaaImOFnExactFind
import Derived.Deep.QuietTactic
import Derived.BigQuiet
import Derived.StillTailTactics
import Derived.Outline
import Derived.Deep.RegionHeld3
import Derived.Deep.Cut
import Derived.Test.YtlpabbcgichaoaaHw
import Derived.Test.YtlpabbcgichaoaaPk
import Derived.Test.YtlpabbcgichaoaaPq
namespace Go.Proofs.Ytlpabbcgichaoaa.PFnExactFind
open Go.RowKit Go.Proofs.Ytlpabbcgichaoaa.Lawful Go.Proofs.YtlpabbcgichaoaaW.PrintWords Go.Proofs.YtlpabbcgichaoaaW.PrintLast Go.Proofs.YtlpabbcgichaoaaW.PrintMore
attribute [local go_sem] max2_int min2_int max_two min_two max_three min_three max_four min_four   -- for this text's walks alone
set_option linter.unusedVariables false
set_option linter.unusedSimpArgs false
section
open Go.Proofs.Ytlpabbcgichaoaa.Lawful
def impl_onward.T5 : Bool × List (List Nat × List Nat) := (true, [([], []), ([0], [0]), ([1], [1]), ([2], [2]), ([], []), ([3, 4], [3, 4]), ([5], [5]), ([6], [6]), ([6], [6]), ([7, 0, 1, 2, 3, 4, 5, 6, 7], [7]), ([8, 9, 0, 1, 2, 3, 4, 5, 6, 7, 8, 9], [8])])
def impl_onward.B5 : List Nat := [0, 1, 3, 7, 0, 31, 63, 127, 127, 255, 1023]
theorem impl_onward.tab5 : rtab .any (opsOf Try.f54 5) = impl_onward.T5 := by kernel_rfl
theorem impl_onward.bits5 : waitsOk impl_onward.T5.2 impl_onward.B5 = true := by kernel_rfl
def impl_onward.T33 : Bool × List (List Nat × List Nat) := (true, [([], []), ([0], [0]), ([1], [1]), ([2], [2]), ([], []), ([], []), ([3, 4, 5, 0, 1, 2, 3, 4, 5], [3, 4, 5])])
def impl_onward.B33 : List Nat := [0, 1, 3, 7, 0, 0, 63]
theorem impl_onward.tab33 : rtab .any (opsOf Try.f54 33) = impl_onward.T33 := by kernel_rfl
theorem impl_onward.bits33 : waitsOk impl_onward.T33.2 impl_onward.B33 = true := by kernel_rfl
set_option maxHeartbeats 16000000 in
set_option maxRecDepth 100000 in
theorem impl_onward (E : imE) (w : World) (VG : Value) (hok : E.Ok w) (x : S31) (hkind : x.f0 = 7 ∨ x.f0 = 9) (hF : ∀ y ∈ x.f4, E.From w VG y) : ∀ (m node d i : Nat) (ks : List Int) (ws : World) (PE : Nat → Prop), (E.T.size - i) * (x.f4.length + 22) + (x.f4.length + 21 - d) < m → ((x.f0 = 7 → d ≤ x.f4.length) ∧ (x.f0 = 9 → d ≤ 21)) → i ≤ E.T.size → E.ns[node]? = some (x, ks) → E.At w ws PE VG →
  Calls Try.prog 54 #[.pointer (some ⟨E.gG, 0, none⟩), .int .i64 (node : Int), .int .i64 (d : Int), .int .i64 (i : Int)] ws (E.Post w ws PE VG (imOn E.T x d i)) := by
 obtain ⟨PG, PN, gG, gE, gR, BN, DN, T, L, ns⟩ := E
 obtain ⟨hne, hL, hT, hgE, hgR, hns, hnaa, htree⟩ := hok
 dsimp only at hne hL hT hgE hgR hns hnaa htree hF ⊢
 have hu := Try.underlying74
 have hu2 := Try.underlying76
 have hu3 := Try.underlying31
 have HNE := Aside0.mk hne
 have HL := Aside0.mk hL
 have HT := Aside0.mk hT
 have HGE := Aside0.mk (show w.heap.size ≤ gE ∧ w.heap.size ≤ gR from ⟨hgE, hgR⟩)
 have HFF := Aside0.mk hF
 intro m
 induction m with
 | zero => intro node d i ks ws PE hm; omega
 | succ m ih =>
 intro node d i ks ws PE hm hd hi hnode hAt
 have IH := Aside0.mk ih
 have HMU := Aside0.mk hm
 have HND := Aside0.mk hnode
 obtain ⟨hrw, _, hcn⟩ := htree node x ks hnode
 obtain ⟨hkl, hkid⟩ := hnaa node x ks hnode
 have hnl : node < ns.length := (List.getElem?_eq_some_iff.1 hnode).1
 clear ih hm hF htree hnaa hne hL hgE hgR
 obtain ⟨hb_, hg_, hn_, he_, hge_, hne_⟩ := hAt
 dsimp only at hb_ hg_ hn_ he_ hge_ hne_
 have HB := Aside0.mk hb_
 have HG := Aside0.mk hg_
 have HN := Aside0.mk hn_
 have HE := Aside0.mk he_
 have D_G_E := Aside0.mk hge_
 have D_N_E := Aside0.mk hne_
 have HK := Aside0.mk (Kept.refl ws (fun k_ => k_ = gE ∨ k_ = gR))
 have HM1 := Aside0.mk (show ∀ k, PE k → PE k from fun _ h => h)
 have HM2 := Aside0.mk (show ∀ k, PE k → PE k ∨ ws.heap.size ≤ k from fun _ h => .inl h)
 clear hb_ hg_ hn_ he_ hge_ hne_
 obtain ⟨f0, f1, f2, f3, l⟩ := x
 dsimp only at hkind hd hrw hkl hkid
 rw [rxW] at hrw
 obtain ⟨_, _, hw1, hw2, _, _, _⟩ := hrw
 rw [cnt] at hcn
 have HLN := Aside0.mk (show l.length < 1099511627776 from by have := cntL_ge l; omega)
 clear hcn
 have HKL := Aside0.mk hkl
 have HKID := Aside0.mk hkid
 have HI := Aside0.mk hi
 have HNL := Aside0.mk (show node < 1099511627776 from by omega)
 have HN2 := Aside0.mk hnl
 obtain ⟨adN, A4, c4, A5, c5, eBN, ha0, ha1, ha2, ha3, ha4, ha5, hq_, _⟩ := at_NAF HN.out node _ hnode
 subst eBN
 dsimp only at ha0 ha1 ha2 ha3 ha4 ha5 hq_
 have HQ := Aside0.mk hq_
 have D_Q_E := D_N_E
 have q1_ := eq_true (show (0 : Int) ≤ (node : Int) from Int.natCast_nonneg _)
 have q2_ := eq_true (show (node : Int) < (ns.length : Int) from Int.ofNat_lt.2 hnl)
 have q3_ := eq_true hnl
 clear hq_ hkl hkid hnode hnl
 replace jG := HG.out.c5
 rcases hkind with hk | hk
 ·
  have k7 : (f0 == 7) = true := beq_iff_eq.mpr hk
  have k9 : (f0 == 9) = false := bnf (by omega)
  have hdl := hd.1 hk
  have HDL := Aside0.mk hdl
  have HK7 := Aside0.mk hk
  have HKEY := Aside0.mk (show node < 9223372036854775808 ∧ d < 9223372036854775808 ∧ i < 9223372036854775808 from ⟨by have := HNL.out; omega, by have := HLN.out; omega, by have := HT.out; omega⟩)
  clear hd hdl hw1 hw2 hk
  go_enter Try.func54, Try.ntmps54
  go_upto_region 5 with (first | ((with_reducible refine gate_dst (N := 9) rfl ?_); refine bx_ (N := 9) (cs := #[.int .i64 0, .int .i64 0, .int .i64 0, .string ByteArray.empty, .slice none 0 0, .slice none 0 0]) (t := 76) rfl rfl ?hr_1 ?_; (case hr_1 => first | (go_simp; done) | (go_simp; rfl)); intro gX1 hg w2 hb hk PX1 hPX1 HX1; have GEX1 := Aside0.mk (gen_ hg HB.out); have D_G_X1 := na hPX1 HG; have D_N_X1 := Aside0.mk (new_apart HN.out.lt hPX1); have D_E_X1 := Aside0.mk (new_apart HE.out.lt hPX1); have D_Q_X1 := Aside0.mk (new_apart HQ.out.lt hPX1); have RRX1 := Aside0.mk (rrn HK.out hPX1); replace HG := sn hk HG; replace HN := Aside0.mk (HN.out.step hk no_S); replace HE := Aside0.mk (HE.out.step hk no_S); replace HQ := Aside0.mk (HQ.out.step hk no_S); replace HK := Aside0.mk (HK.out.then_ hk no_R); replace HB := Aside0.mk (below_step HB.out hb); clear hb hk hg hPX1; replace jG := HG.out.c5; replace jX1 := HX1.out.c6) | ((with_reducible refine gate_store (t := 76) (p := 9) rfl ?_); refine LB.storedW HX1.out HB.out GEX1.out [.int .i64 f0, .int .i64 f1, .int .i64 f2, .string f3, .slice A4 l.length c4, .slice A5 ks.length c5] rfl rfl (t := 76) (p := 9) rfl rfl ?hr_2 ?_; (case hr_2 => first | (go_simp; done) | (go_simp; simp only [World.setCells, Nat.reduceAdd, Nat.zero_add]; done)); intro w2 hx hk hb; replace HG := ss hk HG D_G_X1.out; replace HN := Aside0.mk (HN.out.step hk D_N_X1.out); replace HE := Aside0.mk (HE.out.step hk D_E_X1.out); replace HQ := Aside0.mk (HQ.out.step hk D_Q_X1.out); replace HK := Aside0.mk (HK.out.then_ hk RRX1.out); replace HB := Aside0.mk hb; replace HX1 := Aside0.mk (show LB w2 PX1 gX1 76 #[.int .i64 f0, .int .i64 f1, .int .i64 f2, .string f3, .slice A4 l.length c4, .slice A5 ks.length c5] from hx); clear hk hx hb; replace jG := HG.out.c5; replace jX1 := HX1.out.c6) | ((with_reducible refine gate_dst (N := 10) rfl ?_); refine bx_ (N := 10) (cs := #[.int .i64 0, .int .i64 0, .int .i64 0]) (t := 101) rfl rfl ?hr_3 ?_; (case hr_3 => first | (go_simp; done) | (go_simp; rfl)); intro gX2 hg w2 hb hk PX2 hPX2 HX2; have GEX2 := Aside0.mk (gen_ hg HB.out); have D_G_X2 := na hPX2 HG; have D_N_X2 := Aside0.mk (new_apart HN.out.lt hPX2); have D_E_X2 := Aside0.mk (new_apart HE.out.lt hPX2); have D_Q_X2 := Aside0.mk (new_apart HQ.out.lt hPX2); have D_X1_X2 := na hPX2 HX1; have RRX2 := Aside0.mk (rrn HK.out hPX2); replace HG := sn hk HG; replace HN := Aside0.mk (HN.out.step hk no_S); replace HE := Aside0.mk (HE.out.step hk no_S); replace HQ := Aside0.mk (HQ.out.step hk no_S); replace HX1 := sn hk HX1; replace HK := Aside0.mk (HK.out.then_ hk no_R); replace HB := Aside0.mk (below_step HB.out hb); clear hb hk hg hPX2; replace jG := HG.out.c5; replace jX1 := HX1.out.c6; replace jX2 := HX2.out.c3) | ((with_reducible refine gate_store (t := 101) (p := 10) rfl ?_); refine LB.storedW HX2.out HB.out GEX2.out [.int .i64 (node : Int), .int .i64 (d : Int), .int .i64 (i : Int)] rfl rfl (t := 101) (p := 10) rfl rfl ?hr_4 ?_; (case hr_4 => first | (go_simp; done) | (go_simp; simp only [World.setCells, Nat.reduceAdd, Nat.zero_add]; done)); intro w2 hx hk hb; replace HG := ss hk HG D_G_X2.out; replace HN := Aside0.mk (HN.out.step hk D_N_X2.out); replace HE := Aside0.mk (HE.out.step hk D_E_X2.out); replace HQ := Aside0.mk (HQ.out.step hk D_Q_X2.out); replace HX1 := ss hk HX1 D_X1_X2.out; replace HK := Aside0.mk (HK.out.then_ hk RRX2.out); replace HB := Aside0.mk hb; replace HX2 := Aside0.mk (show LB w2 PX2 gX2 101 #[.int .i64 (node : Int), .int .i64 (d : Int), .int .i64 (i : Int)] from hx); clear hk hx hb; replace jG := HG.out.c5; replace jX1 := HX1.out.c6; replace jX2 := HX2.out.c3))
  refine start_ (n := 11) (S := fun w' => w'.cell? ⟨gG, 3, none⟩ = some (.map (some gR)) ∧ w'.cell? ⟨gX2, 0, none⟩ = some (.int .i64 (node : Int)) ∧ w'.cell? ⟨gX2, 1, none⟩ = some (.int .i64 (d : Int)) ∧ w'.cell? ⟨gX2, 2, none⟩ = some (.int .i64 (i : Int))) (ds := []) #[false, false, false, false, false, false, false, false, false, false, false] (by kernel_rfl) rfl rfl ⟨jG.2.2.2.2.2.2.1, jX2.1, jX2.2.2.1, jX2.2.2.2.2.1⟩ (fun hHeld => ?_)
  refine with_tabW impl_onward.tab5 impl_onward.bits5 (fun HT_ HW_ => ?_)
  generalize hwd_ : World.drew w2 = wd_ at hHeld ⊢
  have hk := kept_drew hwd_
  replace HG := sn hk HG
  replace HN := Aside0.mk (HN.out.step hk no_S)
  replace HE := Aside0.mk (HE.out.step hk no_S)
  replace HQ := Aside0.mk (HQ.out.step hk no_S)
  replace HX1 := sn hk HX1
  replace HX2 := sn hk HX2
  replace HK := Aside0.mk (HK.out.then_ hk no_R)
  replace HB := Aside0.mk (below_drewd HB.out hwd_)
  clear hk hwd_
  replace jG := HG.out.c5
  replace jX1 := HX1.out.c6
  replace jX2 := HX2.out.c3
  refine pu 0 47 HT_.out rfl rfl rfl ?_
  refine pu 1 48 HT_.out rfl rfl rfl ?_
  refine pu 2 49 HT_.out rfl rfl rfl ?_
  refine tk 3 50 HT_.out HW_.out hHeld rfl rfl rfl ?_
  refine tk 4 51 HT_.out HW_.out hHeld rfl rfl rfl ?_
  rcases (HE.out).look3 node d i HKEY.out HND.out with hl_ | ⟨v_, hl_, hv_⟩
  ·
   refine on_ 5 (some 52) HT_.out rfl rfl fun K hK => ?_
   refine event_step (w1 := wd_) (v := .tuple #[.slice none 0 0, .bool false]) (by rfl) ?hr_5 ?_
   (case hr_5 => go_simp; first | done | (erw [hl_]; rfl))
   skip
   refine hK.out _ _ ⟨jG.2.2.2.2.2.2.1, jX2.1, jX2.2.2.1, jX2.2.2.2.2.1⟩ (fun hHeld => ?_)
   clear hK K
   refine norm_ (a' := ?_) ?_ ?_
   rotate_left
   ·
    show Act.put _ (some 52) _ = _
    simp only [Act.put, List.setIfInBounds_toArray, List.set_cons_zero, List.set_cons_succ, i64_w, i32_w]
    rfl
   refine pu 6 46 HT_.out rfl rfl rfl ?_
   refine pu 7 53 HT_.out rfl rfl rfl ?_
   refine pu 8 54 HT_.out rfl rfl rfl ?_
   refine pu 9 11 HT_.out rfl rfl rfl ?_
   refine pu 10 12 HT_.out rfl rfl rfl ?_
   refine done_ (done_of HT_.out (by kernel_rfl)) ?_
   by_cases hde : d = l.length
   ·
    have e1 : ((d : Int) == (ks.length : Int)) = true := beq_iff_eq.mpr (by have := HKL.out; omega)
    have e1n : (d == ks.length) = true := beq_iff_eq.mpr (by have := HKL.out; omega)
    have HDE := Aside0.mk hde
    clear hde
    go_upto_region 18 with (first | ((with_reducible refine gate_callee (f := 50) rfl ?_); refine gl_ (some 58) rfl rfl Try.func50 #[.pointer (some ⟨gG, 0, none⟩)] rfl rfl ?_; (with_reducible refine (impl_none w _ PG gG T _ _ _ _ L HL.out HB.out HG.out HT.out).mono ?_); rintro e w2 ⟨BO, cO, PO, rfl, ho_, hb_, hk_, hn_⟩; refine ⟨_, rfl, ?_⟩; obtain ⟨gO, cq, he_, _, _, _⟩ := Kd.R_form ho_.1 (by rw [rowOf_len]; omega); injection he_ with ea_ el_ ec_; clear el_; subst ea_ ec_; have D_G_O := ap_ hn_ HG; have D_N_O := Aside0.mk (apn HN.out.lt hn_); have D_E_O := Aside0.mk (apn HE.out.lt hn_); have D_Q_O := Aside0.mk (apn HQ.out.lt hn_); have D_X1_O := ap_ hn_ HX1; have D_X2_O := ap_ hn_ HX2; replace HG := sn hk_ HG; replace HN := Aside0.mk (HN.out.step hk_ no_S); replace HE := Aside0.mk (HE.out.step hk_ no_S); replace HQ := Aside0.mk (HQ.out.step hk_ no_S); replace HX1 := sn hk_ HX1; replace HX2 := sn hk_ HX2; have RRO := Aside0.mk (rrm HK.out hn_); replace HK := Aside0.mk (HK.out.then_ hk_ no_R); replace HB := Aside0.mk hb_; have HO := Aside0.mk ho_; clear ho_ hb_ hk_ hn_; replace jG := HG.out.c5; replace jX1 := HX1.out.c6; replace jX2 := HX2.out.c3))
    obtain ⟨hy0, hy1⟩ := im_at HO.out i (by have := HI.out; have := HL.out; omega)
    have z1 := eq_true (show (0 : Int) ≤ (i : Int) from Int.natCast_nonneg _)
    have z2 := eq_true (show (i : Int) < (L : Int) by have := HI.out; have := HL.out; omega)
    have z3 := eq_true (show i < L by have := HI.out; have := HL.out; omega)
    go_upto_region 33 with (first | ((with_reducible refine gate_store (t := 4) (p := 115) rfl ?_); refine im_put1 HO.out HB.out i (by have := HI.out; have := HL.out; omega) true rfl (t := 4) (p := 115) rfl rfl ?hr_7 ?_; (case hr_7 => first | (go_simp; done) | (go_simp; simp only [World.setCells, Nat.reduceAdd, Nat.zero_add]; done)); intro w2 hx hk hb; replace HG := ss hk HG D_G_O.out; replace HN := Aside0.mk (HN.out.step hk D_N_O.out); replace HE := Aside0.mk (HE.out.step hk D_E_O.out); replace HQ := Aside0.mk (HQ.out.step hk D_Q_O.out); replace HX1 := ss hk HX1 D_X1_O.out; replace HX2 := ss hk HX2 D_X2_O.out; replace HK := Aside0.mk (HK.out.then_ hk RRO.out); replace HB := Aside0.mk hb; rw [rowOf_set] at hx; replace HO := Aside0.mk hx; clear hk hx hb; (try clear hy0 hy1); replace jG := HG.out.c5; replace jX1 := HX1.out.c6; replace jX2 := HX2.out.c3))
    have hrow_ : rowOf T.size (fun j => if j = i then true else false) = imOn T (⟨f0, f1, f2, f3, l⟩ : S31) d i := by rw [HDE.out]; refine rowOf_congr (fun j hj => ?_); have hk := HK7.out; subst hk; rw [onw_cat_end]; by_cases e : i = j; (subst e; simp); (rw [if_neg (fun h => e h.symm)]; exact (beq_eq_false_iff_ne.2 e).symm)
    replace HO := Aside0.mk (hrow_ ▸ HO.out)
    clear hrow_
    go_upto_region 33 with (fail)
    try dsimp only
    refine start_ (n := 7) (S := fun w' => w'.cell? ⟨gG, 3, none⟩ = some (.map (some gR)) ∧ w'.cell? ⟨gX2, 0, none⟩ = some (.int .i64 (node : Int)) ∧ w'.cell? ⟨gX2, 1, none⟩ = some (.int .i64 (d : Int)) ∧ w'.cell? ⟨gX2, 2, none⟩ = some (.int .i64 (i : Int))) (ds := [6]) #[false, false, false, false, false, false, false] (by kernel_rfl) rfl rfl ⟨jG.2.2.2.2.2.2.1, jX2.1, jX2.2.2.1, jX2.2.2.2.2.1⟩ (fun hHeld => ?_)
    refine with_tabW impl_onward.tab33 impl_onward.bits33 (fun HT_ HW_ => ?_)
    generalize hwd_ : World.drew w2 = wd_ at hHeld ⊢
    have hk := kept_drew hwd_
    replace HG := sn hk HG
    replace HN := Aside0.mk (HN.out.step hk no_S)
    replace HE := Aside0.mk (HE.out.step hk no_S)
    replace HQ := Aside0.mk (HQ.out.step hk no_S)
    replace HX1 := sn hk HX1
    replace HX2 := sn hk HX2
    replace HO := Aside0.mk (HO.out.step hk no_S)
    replace HK := Aside0.mk (HK.out.then_ hk no_R)
    replace HB := Aside0.mk (below_drewd HB.out hwd_)
    clear hk hwd_
    replace jG := HG.out.c5
    replace jX1 := HX1.out.c6
    replace jX2 := HX2.out.c3
    refine pu 0 174 HT_.out rfl rfl rfl ?_
    refine pu 1 175 HT_.out rfl rfl rfl ?_
    refine pu 2 176 HT_.out rfl rfl rfl ?_
    refine tk 3 177 HT_.out HW_.out hHeld rfl rfl rfl ?_
    refine tk 4 178 HT_.out HW_.out hHeld rfl rfl rfl ?_
    refine pu 5 179 HT_.out rfl rfl rfl ?_
    obtain ⟨w9, hput_, ⟨hst_, hkk_, hbb_⟩⟩ := (HE.out).put3 HNE.out HL.out node d i HKEY.out HND.out HO.out (apart_symm D_E_O.out)
    dsimp only at hst_ hkk_ hbb_ hput_
    refine la_ 6 none HT_.out rfl rfl fun K hK => ?_
    refine skip_step (w1 := w9) (by rfl) rfl ?hr_8 ?_
    (case hr_8 => go_simp; first | done | (erw [hput_]; rfl))
    replace HG := Aside0.mk (HG.out.step hkk_ (fun k h1_ h2_ => D_G_E.out k h1_ (h2_ ▸ HE.out.1.2)))
    replace HN := Aside0.mk (HN.out.step hkk_ (fun k h1_ h2_ => D_N_E.out k h1_ (h2_ ▸ HE.out.1.2)))
    have hoF_ := Kd.F_kept (Kd.R_F HO.out.1) hkk_ (fun k h1_ h2_ => (apart_symm D_E_O.out) k h1_ (h2_ ▸ HE.out.1.2))
    have hOE_ := Aside0.mk (fun k h1_ => (apart_symm D_E_O.out) k h1_)
    replace HK := Aside0.mk (HK.out.then_ hkk_ (fun _ h_ => .inl (.inr h_)))
    replace HB := Aside0.mk (hbb_ w HB.out HGE.out.2)
    skip
    refine hK.out _ _ ?_
    clear hK K
    refine done_ (done_of HT_.out (by kernel_rfl)) ?_
    go_wp2
    go_ret
    refine ⟨_, _, _, rfl, ⟨HB.out, HG.out, HN.out, hst_, fun k h1_ h2_ => h2_.elim (D_G_E.out k h1_) (D_G_O.out k h1_), fun k h1_ h2_ => h2_.elim (D_N_E.out k h1_) (D_N_O.out k h1_)⟩, ?_, Kd.F_mono (id hoF_) (fun k h_ => ⟨.inr h_, fun e_ => hOE_.out k h_ (e_ ▸ HE.out.1.1), fun e_ => hOE_.out k h_ (e_ ▸ HE.out.1.2)⟩), fun k h_ => .inl (HM1.out k h_), fun k h_ => h_.elim (HM2.out k) (fun h2_ => (RRO.out k h2_).elim (fun h3_ => h3_.elim (fun e_ => absurd (e_ ▸ HE.out.1.1) (hOE_.out k h2_)) (fun e_ => absurd (e_ ▸ HE.out.1.2) (hOE_.out k h2_))) .inr), HK.out⟩
    have := HO.out.room; rw [rowOf_len' HL.out] at this; exact this
   have e1 : ((d : Int) == (ks.length : Int)) = false := beq_eq_false_iff_ne.mpr (by have := HKL.out; omega)
   have e1n : (d == ks.length) = false := beq_eq_false_iff_ne.mpr (by have := HKL.out; omega)
   have HDE := Aside0.mk (show d < l.length by have := HDL.out; omega)
   clear hde
   obtain ⟨y, hy⟩ : ∃ y, l[d]? = some y := ⟨_, List.getElem?_eq_getElem (HDE.out)⟩
   obtain ⟨pk, ks2, hpk, hpn⟩ := HKID.out d y hy
   try dsimp only at hpk
   have HFY := Aside0.mk (HFF.out y (List.mem_of_getElem? hy) pk ks2 i)
   have HPN := Aside0.mk hpn
   have HPK := Aside0.mk hpk
   have hkq : d < ks.length := (List.getElem?_eq_some_iff.1 hpk).1
   have HKQ := Aside0.mk hkq
   have v1_ := eq_true (show ((d : Nat) : Int) < (ks.length : Int) from Int.ofNat_lt.2 hkq)
   have v2_ := eq_true hkq
   have v0_ := eq_true (show (0 : Int) ≤ ((d : Nat) : Int) from Int.natCast_nonneg _)
   clear hpk hpn hkq
   go_upto_region 20 with (first | ((with_reducible refine gate_callee (f := 50) rfl ?_); refine gl_ (some 58) rfl rfl Try.func50 #[.pointer (some ⟨gG, 0, none⟩)] rfl rfl ?_; (with_reducible refine (impl_none w _ PG gG T _ _ _ _ L HL.out HB.out HG.out HT.out).mono ?_); rintro e w2 ⟨BO, cO, PO, rfl, ho_, hb_, hk_, hn_⟩; refine ⟨_, rfl, ?_⟩; obtain ⟨gO, cq, he_, _, _, _⟩ := Kd.R_form ho_.1 (by rw [rowOf_len]; omega); injection he_ with ea_ el_ ec_; clear el_; subst ea_ ec_; have D_G_O := ap_ hn_ HG; have D_N_O := Aside0.mk (apn HN.out.lt hn_); have D_E_O := Aside0.mk (apn HE.out.lt hn_); have D_Q_O := Aside0.mk (apn HQ.out.lt hn_); have D_X1_O := ap_ hn_ HX1; have D_X2_O := ap_ hn_ HX2; replace HG := sn hk_ HG; replace HN := Aside0.mk (HN.out.step hk_ no_S); replace HE := Aside0.mk (HE.out.step hk_ no_S); replace HQ := Aside0.mk (HQ.out.step hk_ no_S); replace HX1 := sn hk_ HX1; replace HX2 := sn hk_ HX2; have RRO := Aside0.mk (rrm HK.out hn_); replace HK := Aside0.mk (HK.out.then_ hk_ no_R); replace HB := Aside0.mk hb_; have HO := Aside0.mk ho_; clear ho_ hb_ hk_ hn_; replace jG := HG.out.c5; replace jX1 := HX1.out.c6; replace jX2 := HX2.out.c3))
   obtain ⟨ad5, eA5, hk5⟩ := im_atI HQ.out d HKQ.out HPK.out
   go_wp2_with (first | ((with_reducible refine gate_callee (f := 38) rfl ?_); refine gl_ (some 128) rfl rfl Try.func38 #[.pointer (some ⟨gG, 0, none⟩), .int .i64 (pk : Int), .int .i64 (i : Int)] rfl rfl ?_; (with_reducible refine (HFY.out _ _ HPN.out HI.out ⟨HB.out, HG.out, HN.out, HE.out, D_G_E.out, D_N_E.out⟩).mono ?_); rintro e w2 ⟨PE3, AR, cR, rfl, ⟨hb_, hg_, hn_, he_, hge_, hne_⟩, hcl_, hF_, hm1_, hm2_, hkk_⟩; refine ⟨_, rfl, ?_⟩; dsimp only at hb_ hg_ hn_ he_ hge_ hne_ hcl_ hF_ hkk_; have D_Q_E3 := Aside0.mk (apart_app hm2_ HQ.out.lt D_Q_E.out); have D_X1_E3 := Aside0.mk (apart_app hm2_ HX1.out.lt (apart_symm D_E_X1.out)); have D_X2_E3 := Aside0.mk (apart_app hm2_ HX2.out.lt (apart_symm D_E_X2.out)); have D_O_E3 := Aside0.mk (apart_app hm2_ HO.out.lt (apart_symm D_E_O.out)); replace HQ := Aside0.mk (HQ.out.step hkk_ (imNotK D_Q_E.out HE.out.1)); replace HX1 := Aside0.mk (HX1.out.step hkk_ (imNotK (apart_symm D_E_X1.out) HE.out.1)); replace HX2 := Aside0.mk (HX2.out.step hkk_ (imNotK (apart_symm D_E_X2.out) HE.out.1)); replace HO := Aside0.mk (HO.out.step hkk_ (imNotK (apart_symm D_E_O.out) HE.out.1)); replace HM1 := Aside0.mk (fun k h => hm1_ k (HM1.out k h)); replace HM2 := Aside0.mk (show ∀ k, PE3 k → PE k ∨ ws.heap.size ≤ k from fun k h => (hm2_ k h).elim (HM2.out k) (fun h => .inr (Nat.le_trans HK.out.1 h))); have HR := Aside0.mk (imLN (base := w.heap.size) (rowOf_len' HL.out _) hcl_ hF_ (fun k h => he_.lt k h.1)); have D_R_K := Aside0.mk (show ∀ k, (PE3 k ∧ k ≠ gE ∧ k ≠ gR) → ¬ (k = gE ∨ k = gR) from fun k h1_ h2_ => h2_.elim h1_.2.1 h1_.2.2); have D_R_O := Aside0.mk (show ∀ k, (PE3 k ∧ k ≠ gE ∧ k ≠ gR) → ¬ PO k from fun k h1_ h2_ => D_O_E3.out k h2_ h1_.1); replace HK := Aside0.mk (HK.out.then_ hkk_ (fun _ h_ => .inl h_)); replace HB := Aside0.mk hb_; replace HG := Aside0.mk hg_; replace HN := Aside0.mk hn_; have HE3 := Aside0.mk he_; have D_G_E3 := Aside0.mk hge_; have D_N_E3 := Aside0.mk hne_; clear hb_ hg_ hn_ he_ hge_ hne_ hcl_ hF_ hm1_ hm2_ hkk_ HE; replace jG := HG.out.c5; replace jX1 := HX1.out.c6; replace jX2 := HX2.out.c3))
   obtain ⟨adR, eR_, _⟩ := im_atN HR.out 0 (by have := HL.out; omega)
   subst eR_
   have HY := Aside0.mk hy
   clear hy hk5
   go_loopg [130] (L + 1) (fun kq v130 w' => ∃ (e : Nat) (PE1 : Nat → Prop), v130 = .int .i64 (e : Int) ∧ Aside0 (e + kq = L + 1 ∧ 0 < kq) ∧ Aside0 (Below w.heap.size w w') ∧ Aside0 (LB w' PG gG 74 #[.string T, .slice (some adN) ns.length DN, .map (some gE), .map (some gR), VG]) ∧ Aside0 (LN kNA 76 w' w.heap.size PN (.slice (some adN) ns.length DN) ns) ∧ Aside0 (LN (Kd.int .i64) 3 w' w.heap.size PN (.slice A5 ks.length c5) ks) ∧ Aside0 (LB w' PX1 gX1 76 #[.int .i64 f0, .int .i64 f1, .int .i64 f2, .string f3, .slice A4 l.length c4, .slice A5 ks.length c5]) ∧ Aside0 (LB w' PX2 gX2 101 #[.int .i64 (node : Int), .int .i64 (d : Int), .int .i64 (i : Int)]) ∧ Aside0 (LR Kd.bool 4 w' w.heap.size PO (.slice (some ⟨gO, 0, none⟩) L cO) (rowOf T.size (accK (fun _ => false) (fun q => mat (imTx T) T.size y i q) (onw (imTx T) T.size (⟨f0, f1, f2, f3, l⟩ : S31) (d + 1)) e))) ∧ Aside0 (imK ⟨PG, PN, gG, gE, gR, some adN, DN, T, L, ns⟩ w' PE1) ∧ Aside0 (LN Kd.bool 4 w' w.heap.size (fun k => PE3 k ∧ k ≠ gE ∧ k ≠ gR) (.slice (some adR) L cR) (rowOf T.size (mat (imTx T) T.size y i))) ∧ Aside0 (∀ k, PG k → ¬ PE1 k) ∧ Aside0 (∀ k, PN k → ¬ PE1 k) ∧ Aside0 (∀ k, PN k → ¬ PE1 k) ∧ Aside0 (∀ k, PX1 k → ¬ PE1 k) ∧ Aside0 (∀ k, PX2 k → ¬ PE1 k) ∧ Aside0 (∀ k, PO k → ¬ PE1 k) ∧ Aside0 (Kept ws w' (fun k_ => k_ = gE ∨ k_ = gR)) ∧ Aside0 (∀ k, PE k → PE1 k) ∧ Aside0 (∀ k, PE1 k → PE k ∨ ws.heap.size ≤ k))
   case atStart => exact ⟨0, _, rfl, ⟨by omega, by omega⟩, HB, HG, HN, HQ, HX1, HX2, ⟨by rw [accK_zero]; exact HO.out⟩, HE3, HR, ⟨D_G_E3.out⟩, ⟨D_N_E3.out⟩, ⟨D_Q_E3.out⟩, ⟨D_X1_E3.out⟩, ⟨D_X2_E3.out⟩, ⟨D_O_E3.out⟩, HK, HM1, HM2⟩
   case round =>
    clear HB HK HM1 HM2 HG HN HQ HX1 HX2 HO HE3 HR
    clear D_G_E3 D_N_E3 D_Q_E3 D_X1_E3 D_X2_E3 D_O_E3
    try clear jG
    try clear jX1
    try clear jX2
    obtain ⟨e, PZ, rfl, HX, HB, HG, HN, HQ, HX1, HX2, HO, HZ, HR, D_G_Z, D_N_Z, D_Q_Z, D_X1_Z, D_X2_Z, D_O_Z, HK, HM1, HM2⟩ := hrel
    replace jG := HG.out.c5
    replace jX1 := HX1.out.c6
    replace jX2 := HX2.out.c3
    by_cases hlt : e < L
    ·
     obtain ⟨k1, rfl⟩ : ∃ k_, gk = k_ + 1 := ⟨gk - 1, by have := HX.out; omega⟩
     have HE2 := Aside0.mk (show e ≤ T.size ∧ e + 1 + k1 = L + 1 ∧ 0 < k1 from by have h1 := HX.out; have h2 := HL.out; exact ⟨by omega, by omega, by omega⟩)
     obtain ⟨_, eR_, hr0⟩ := im_atN HR.out e hlt
     cases eR_
     rw [rowOf_getD _ _ _ HE2.out.1] at hr0
     have hwe : wrap64 ((e : Int) + 1) = ((e + 1 : Nat) : Int) := by have := HE2.out; have := HT.out; unfold wrap64; omega
     have z1 := eq_true (show (0 : Int) ≤ (e : Int) from Int.natCast_nonneg _)
     have z2 := eq_true (show (e : Int) < (L : Int) from Int.ofNat_lt.2 hlt)
     have z2d := decide_eq_true (show (e : Int) < (L : Int) from Int.ofNat_lt.2 hlt)
     have z3 := eq_true hlt
     have z3d := decide_eq_true hlt
     clear hlt
     rcases hb_ : mat (imTx T) T.size y i e with _ | _
     ·
      rw [hb_] at hr0
      have HBF := Aside0.mk hb_
      clear hb_
      go_wp2
      go_roundg k1
      case measure => omega
      case rel => exact ⟨e + 1, _, by first | rfl | exact congrArg (Value.int .i64) hwe, ⟨HE2.out.2⟩, HB, HG, HN, HQ, HX1, HX2, ⟨by rw [accK_no _ _ _ _ (by simp [HBF.out])]; exact HO.out⟩, HZ, HR, ⟨D_G_Z.out⟩, ⟨D_N_Z.out⟩, ⟨D_Q_Z.out⟩, ⟨D_X1_Z.out⟩, ⟨D_X2_Z.out⟩, ⟨D_O_Z.out⟩, HK, HM1, HM2⟩
     rw [hb_] at hr0
     have HBT := Aside0.mk hb_
     clear hb_
     have HGT := Aside0.mk (show i ≤ e from ((mat_le (imTx T) T.size _).1 y (Nat.le_refl _) i e HBT.out))
     have IO := (fun (ws' : World) (PE' : Nat → Prop) h => IH.out node (d + 1) e ks ws' PE' (by have h1 := HMU.out; have h2 := HGT.out; have h3 := HE2.out; have h4 := HI.out; (try dsimp only at h1 h4); exact Nat.lt_of_lt_of_le (imMu h2 h3.1 (.inl ⟨rfl, by have := HDE.out; omega⟩)) (Nat.le_of_lt_succ h1)) ⟨fun _ => HDE.out, fun h => absurd (h.symm.trans HK7.out) (by decide)⟩ HE2.out.1 HND.out h)
     try dsimp only at IO
     rw [show (((d + 1) : Nat) : Int) = (d : Int) + 1 from rfl] at IO
     replace IO := Aside0.mk IO
     have hwd : wrap64 ((d : Int) + 1) = (d : Int) + 1 := by have := HLN.out; have := HDE.out; unfold wrap64; omega
     have hwdk : IntKind.i64.wrap ((d : Int) + 1) = (d : Int) + 1 := (i64_w _).trans hwd
     go_wp2_with (first | ((with_reducible refine gate_callee (f := 54) rfl ?_); refine gl_ (some 142) rfl rfl Try.func54 #[.pointer (some ⟨gG, 0, none⟩), .int .i64 (node : Int), .int .i64 ((d : Int) + 1), .int .i64 (e : Int)] rfl rfl ?_; (with_reducible refine (IO.out _ _ ⟨HB.out, HG.out, HN.out, HZ.out, D_G_Z.out, D_N_Z.out⟩).mono ?_); rintro e w2 ⟨PE4, AS, cS, rfl, ⟨hb_, hg_, hn_, he_, hge_, hne_⟩, hcl_, hF_, hm1_, hm2_, hkk_⟩; refine ⟨_, rfl, ?_⟩; dsimp only at hb_ hg_ hn_ he_ hge_ hne_ hcl_ hF_ hkk_; have D_Q_E4 := Aside0.mk (apart_app hm2_ HQ.out.lt D_Q_Z.out); have D_X1_E4 := Aside0.mk (apart_app hm2_ HX1.out.lt D_X1_Z.out); have D_X2_E4 := Aside0.mk (apart_app hm2_ HX2.out.lt D_X2_Z.out); have D_O_E4 := Aside0.mk (apart_app hm2_ HO.out.lt D_O_Z.out); replace HQ := Aside0.mk (HQ.out.step hkk_ (imNotK D_Q_Z.out HZ.out.1)); replace HX1 := Aside0.mk (HX1.out.step hkk_ (imNotK D_X1_Z.out HZ.out.1)); replace HX2 := Aside0.mk (HX2.out.step hkk_ (imNotK D_X2_Z.out HZ.out.1)); replace HO := Aside0.mk (HO.out.step hkk_ (imNotK D_O_Z.out HZ.out.1)); replace HR := Aside0.mk (HR.out.step hkk_ D_R_K.out); replace HM1 := Aside0.mk (fun k h => hm1_ k (HM1.out k h)); replace HM2 := Aside0.mk (show ∀ k, PE4 k → PE k ∨ ws.heap.size ≤ k from fun k h => (hm2_ k h).elim (HM2.out k) (fun h => .inr (Nat.le_trans HK.out.1 h))); have HS := Aside0.mk (imLN (base := w.heap.size) (rowOf_len' HL.out _) hcl_ hF_ (fun k h => he_.lt k h.1)); have D_S_K := Aside0.mk (show ∀ k, (PE4 k ∧ k ≠ gE ∧ k ≠ gR) → ¬ (k = gE ∨ k = gR) from fun k h1_ h2_ => h2_.elim h1_.2.1 h1_.2.2); have D_S_O := Aside0.mk (show ∀ k, (PE4 k ∧ k ≠ gE ∧ k ≠ gR) → ¬ PO k from fun k h1_ h2_ => D_O_E4.out k h2_ h1_.1); replace HK := Aside0.mk (HK.out.then_ hkk_ (fun _ h_ => .inl h_)); replace HB := Aside0.mk hb_; replace HG := Aside0.mk hg_; replace HN := Aside0.mk hn_; have HE4 := Aside0.mk he_; have D_G_E4 := Aside0.mk hge_; have D_N_E4 := Aside0.mk hne_; clear hb_ hg_ hn_ he_ hge_ hne_ hcl_ hF_ hm1_ hm2_ hkk_ HZ; replace jG := HG.out.c5; replace jX1 := HX1.out.c6; replace jX2 := HX2.out.c3) | ((with_reducible refine gate_callee (f := 53) rfl ?_); refine gl_ (some 143) rfl rfl Try.func53 #[.slice (some ⟨gO, 0, none⟩) L cO, .slice AS L cS] rfl rfl ?_; (with_reducible refine (im_join w _ PO _ gO L cO T.size _ _ _ _ HL.out HT.out HB.out HO.out HS.out D_S_O.out).mono ?_); rintro e w2 ⟨rfl, ho_, hb_, hk_⟩; refine ⟨_, rfl, ?_⟩; replace HG := ss hk_ HG D_G_O.out; replace HN := Aside0.mk (HN.out.step hk_ D_N_O.out); replace HQ := Aside0.mk (HQ.out.step hk_ D_Q_O.out); replace HX1 := ss hk_ HX1 D_X1_O.out; replace HX2 := ss hk_ HX2 D_X2_O.out; replace HR := Aside0.mk (HR.out.step hk_ D_R_O.out); replace HE4 := Aside0.mk (HE4.out.step hk_ (apart_symm D_O_E4.out)); replace HS := Aside0.mk (HS.out.step hk_ D_S_O.out); replace HK := Aside0.mk (HK.out.then_ hk_ RRO.out); replace HB := Aside0.mk hb_; replace HO := Aside0.mk ho_; clear ho_ hb_ hk_; replace jG := HG.out.c5; replace jX1 := HX1.out.c6; replace jX2 := HX2.out.c3))
     go_roundg k1
     case measure => omega
     case rel => exact ⟨e + 1, _, by first | rfl | exact congrArg (Value.int .i64) hwe, ⟨HE2.out.2⟩, HB, HG, HN, HQ, HX1, HX2, ⟨by rw [accK_yes _ _ _ _ (by simp [HBT.out])]; exact HO.out⟩, HE4, HR, ⟨D_G_E4.out⟩, ⟨D_N_E4.out⟩, ⟨D_Q_E4.out⟩, ⟨D_X1_E4.out⟩, ⟨D_X2_E4.out⟩, ⟨D_O_E4.out⟩, HK, HM1, HM2⟩
    have hel : e = L := by have := HX.out; omega
    have z2d : decide ((e : Int) < (L : Int)) = false := decide_eq_false (by omega)
    have z3d : decide (e < L) = false := decide_eq_false hlt
    have HEL := Aside0.mk (show e = T.size + 1 from hel.trans HL.out)
    clear hel hlt
    have hrow_ : rowOf T.size (accK (fun _ => false) (fun q => mat (imTx T) T.size y i q) (onw (imTx T) T.size (⟨f0, f1, f2, f3, l⟩ : S31) (d + 1)) e) = imOn T (⟨f0, f1, f2, f3, l⟩ : S31) d i := by rw [HEL.out]; exact imCat (imTx T) T.size f0 f1 f2 f3 l d i y HK7.out HDE.out HY.out
    replace HO := Aside0.mk (hrow_ ▸ HO.out)
    clear hrow_
    go_upto_region 33 with (fail)
    try dsimp only
    refine start_ (n := 7) (S := fun w' => w'.cell? ⟨gG, 3, none⟩ = some (.map (some gR)) ∧ w'.cell? ⟨gX2, 0, none⟩ = some (.int .i64 (node : Int)) ∧ w'.cell? ⟨gX2, 1, none⟩ = some (.int .i64 (d : Int)) ∧ w'.cell? ⟨gX2, 2, none⟩ = some (.int .i64 (i : Int))) (ds := [6]) #[false, false, false, false, false, false, false] (by kernel_rfl) rfl rfl ⟨jG.2.2.2.2.2.2.1, jX2.1, jX2.2.2.1, jX2.2.2.2.2.1⟩ (fun hHeld => ?_)
    refine with_tabW impl_onward.tab33 impl_onward.bits33 (fun HT_ HW_ => ?_)
    generalize hwd_ : World.drew wr = wd_ at hHeld ⊢
    have hk := kept_drew hwd_
    replace HG := sn hk HG
    replace HN := Aside0.mk (HN.out.step hk no_S)
    replace HQ := Aside0.mk (HQ.out.step hk no_S)
    replace HX1 := sn hk HX1
    replace HX2 := sn hk HX2
    replace HO := Aside0.mk (HO.out.step hk no_S)
    replace HZ := Aside0.mk (HZ.out.step hk no_S)
    replace HR := Aside0.mk (HR.out.step hk no_S)
    replace HK := Aside0.mk (HK.out.then_ hk no_R)
    replace HB := Aside0.mk (below_drewd HB.out hwd_)
    clear hk hwd_
    replace jG := HG.out.c5
    replace jX1 := HX1.out.c6
    replace jX2 := HX2.out.c3
    refine pu 0 174 HT_.out rfl rfl rfl ?_
    refine pu 1 175 HT_.out rfl rfl rfl ?_
    refine pu 2 176 HT_.out rfl rfl rfl ?_
    refine tk 3 177 HT_.out HW_.out hHeld rfl rfl rfl ?_
    refine tk 4 178 HT_.out HW_.out hHeld rfl rfl rfl ?_
    refine pu 5 179 HT_.out rfl rfl rfl ?_
    obtain ⟨w9, hput_, ⟨hst_, hkk_, hbb_⟩⟩ := (HZ.out).put3 HNE.out HL.out node d i HKEY.out HND.out HO.out D_O_Z.out
    dsimp only at hst_ hkk_ hbb_ hput_
    refine la_ 6 none HT_.out rfl rfl fun K hK => ?_
    refine skip_step (w1 := w9) (by rfl) rfl ?hr_13 ?_
    (case hr_13 => go_simp; first | done | (erw [hput_]; rfl))
    replace HG := Aside0.mk (HG.out.step hkk_ (fun k h1_ h2_ => D_G_Z.out k h1_ (h2_ ▸ HZ.out.1.2)))
    replace HN := Aside0.mk (HN.out.step hkk_ (fun k h1_ h2_ => D_N_Z.out k h1_ (h2_ ▸ HZ.out.1.2)))
    have hoF_ := Kd.F_kept (Kd.R_F HO.out.1) hkk_ (fun k h1_ h2_ => D_O_Z.out k h1_ (h2_ ▸ HZ.out.1.2))
    have hOE_ := Aside0.mk (fun k h1_ => D_O_Z.out k h1_)
    replace HK := Aside0.mk (HK.out.then_ hkk_ (fun _ h_ => .inl (.inr h_)))
    replace HB := Aside0.mk (hbb_ w HB.out HGE.out.2)
    skip
    refine hK.out _ _ ?_
    clear hK K
    refine done_ (done_of HT_.out (by kernel_rfl)) ?_
    go_wp2
    go_ret
    refine ⟨_, _, _, rfl, ⟨HB.out, HG.out, HN.out, hst_, fun k h1_ h2_ => h2_.elim (D_G_Z.out k h1_) (D_G_O.out k h1_), fun k h1_ h2_ => h2_.elim (D_N_Z.out k h1_) (D_N_O.out k h1_)⟩, ?_, Kd.F_mono (id hoF_) (fun k h_ => ⟨.inr h_, fun e_ => hOE_.out k h_ (e_ ▸ HZ.out.1.1), fun e_ => hOE_.out k h_ (e_ ▸ HZ.out.1.2)⟩), fun k h_ => .inl (HM1.out k h_), fun k h_ => h_.elim (HM2.out k) (fun h2_ => (RRO.out k h2_).elim (fun h3_ => h3_.elim (fun e_ => absurd (e_ ▸ HZ.out.1.1) (hOE_.out k h2_)) (fun e_ => absurd (e_ ▸ HZ.out.1.2) (hOE_.out k h2_))) .inr), HK.out⟩
    have := HO.out.room; rw [rowOf_len' HL.out] at this; exact this
  refine on_ 5 (some 52) HT_.out rfl rfl fun K hK => ?_
  refine event_step (w1 := wd_) (v := .tuple #[v_, .bool true]) (by rfl) ?hr_14 ?_
  (case hr_14 => go_simp; first | done | (erw [hl_]; rfl))
  skip
  refine hK.out _ _ ⟨jG.2.2.2.2.2.2.1, jX2.1, jX2.2.2.1, jX2.2.2.2.2.1⟩ (fun hHeld => ?_)
  clear hK K
  refine norm_ (a' := ?_) ?_ ?_
  rotate_left
  ·
   show Act.put _ (some 52) _ = _
   simp only [Act.put, List.setIfInBounds_toArray, List.set_cons_zero, List.set_cons_succ, i64_w, i32_w]
   rfl
  refine pu 6 46 HT_.out rfl rfl rfl ?_
  refine pu 7 53 HT_.out rfl rfl rfl ?_
  refine pu 8 54 HT_.out rfl rfl rfl ?_
  refine pu 9 11 HT_.out rfl rfl rfl ?_
  refine pu 10 12 HT_.out rfl rfl rfl ?_
  refine done_ (done_of HT_.out (by kernel_rfl)) ?_
  obtain ⟨A_, c_, rfl, hlc_, hF_⟩ := hv_
  dsimp only at hlc_ hF_
  go_wp2
  go_ret
  exact ⟨PE, A_, c_, rfl, ⟨HB.out, HG.out, HN.out, HE.out, D_G_E.out, D_N_E.out⟩, hlc_, id hF_, HM1.out, HM2.out, HK.out⟩
 have k7 : (f0 == 7) = false := bnf (by omega)
 have k9 : (f0 == 9) = true := beq_iff_eq.mpr hk
 have hd9 := hd.2 hk
 obtain ⟨hf0, hf20, hfm⟩ := hw2 hk
 have hl1 := hw1 (.inr hk)
 obtain ⟨F1, rfl⟩ := Int.eq_ofNat_of_zero_le hf0
 have HK9 := Aside0.mk hk
 have HL1 := Aside0.mk hl1
 have HD9 := Aside0.mk hd9
 have HF1 := Aside0.mk (show F1 ≤ 20 by omega)
 have HFM := Aside0.mk hfm
 clear hd hw1 hw2 hk hf0 hf20 hl1
 by_cases cm : f2 < 0
 ·
  have CM := Aside0.mk cm
  have cmb : decide (f2 < 0) = true := decide_eq_true cm
  obtain ⟨d1, hmin, hd1F, hd1d, hEQ⟩ : ∃ d1 : Nat, (if (F1 : Int) < (d : Int) then (F1 : Int) else (d : Int)) = (d1 : Int) ∧ d1 ≤ F1 ∧ (d1 < F1 → d1 = d) ∧ imOn T (⟨f0, (F1 : Int), f2, f3, l⟩ : S31) d1 i = imOn T (⟨f0, (F1 : Int), f2, f3, l⟩ : S31) d i := by
   by_cases c : F1 < d
   ·
    refine ⟨F1, if_pos (by omega), Nat.le_refl _, fun h => absurd h (by omega), ?_⟩
    have h9 := HK9.out
    subst h9
    show rowOf T.size (onw (imTx T) T.size ⟨9, (F1 : Int), f2, f3, l⟩ F1 i) = rowOf T.size (onw (imTx T) T.size ⟨9, (F1 : Int), f2, f3, l⟩ d i)
    rw [onw_same (imTx T) T.size (F1 : Int) f2 f3 l d (by omega) cm]
    rfl
   exact ⟨d, if_neg (by omega), by omega, fun _ => rfl, rfl⟩
  have HD1 := Aside0.mk (show d1 ≤ F1 ∧ (d1 < F1 → d1 = d) from ⟨hd1F, hd1d⟩)
  have HEQ := Aside0.mk hEQ
  have hmin2 : (if F1 < d then (F1 : Int) else (d : Int)) = (d1 : Int) := by rw [← hmin]; by_cases c : F1 < d; (rw [if_pos c, if_pos (by omega)]); (rw [if_neg c, if_neg (by omega)])
  clear hd1F hd1d hEQ
  have HKEY := Aside0.mk (show node < 9223372036854775808 ∧ d1 < 9223372036854775808 ∧ i < 9223372036854775808 from ⟨by have := HNL.out; omega, by have := HF1.out; omega, by have := HT.out; omega⟩)
  clear cm hfm hd9
  go_enter Try.func54, Try.ntmps54
  go_upto_region 5 with (first | ((with_reducible refine gate_dst (N := 9) rfl ?_); refine bx_ (N := 9) (cs := #[.int .i64 0, .int .i64 0, .int .i64 0, .string ByteArray.empty, .slice none 0 0, .slice none 0 0]) (t := 76) rfl rfl ?hr_15 ?_; (case hr_15 => first | (go_simp; done) | (go_simp; rfl)); intro gX5 hg w2 hb hk PX5 hPX5 HX5; have GEX5 := Aside0.mk (gen_ hg HB.out); have D_G_X5 := na hPX5 HG; have D_N_X5 := Aside0.mk (new_apart HN.out.lt hPX5); have D_E_X5 := Aside0.mk (new_apart HE.out.lt hPX5); have D_Q_X5 := Aside0.mk (new_apart HQ.out.lt hPX5); have RRX5 := Aside0.mk (rrn HK.out hPX5); replace HG := sn hk HG; replace HN := Aside0.mk (HN.out.step hk no_S); replace HE := Aside0.mk (HE.out.step hk no_S); replace HQ := Aside0.mk (HQ.out.step hk no_S); replace HK := Aside0.mk (HK.out.then_ hk no_R); replace HB := Aside0.mk (below_step HB.out hb); clear hb hk hg hPX5; replace jG := HG.out.c5; replace jX5 := HX5.out.c6) | ((with_reducible refine gate_store (t := 76) (p := 9) rfl ?_); refine LB.storedW HX5.out HB.out GEX5.out [.int .i64 f0, .int .i64 (F1 : Int), .int .i64 f2, .string f3, .slice A4 l.length c4, .slice A5 ks.length c5] rfl rfl (t := 76) (p := 9) rfl rfl ?hr_16 ?_; (case hr_16 => first | (go_simp; done) | (go_simp; simp only [World.setCells, Nat.reduceAdd, Nat.zero_add]; done)); intro w2 hx hk hb; replace HG := ss hk HG D_G_X5.out; replace HN := Aside0.mk (HN.out.step hk D_N_X5.out); replace HE := Aside0.mk (HE.out.step hk D_E_X5.out); replace HQ := Aside0.mk (HQ.out.step hk D_Q_X5.out); replace HK := Aside0.mk (HK.out.then_ hk RRX5.out); replace HB := Aside0.mk hb; replace HX5 := Aside0.mk (show LB w2 PX5 gX5 76 #[.int .i64 f0, .int .i64 (F1 : Int), .int .i64 f2, .string f3, .slice A4 l.length c4, .slice A5 ks.length c5] from hx); clear hk hx hb; replace jG := HG.out.c5; replace jX5 := HX5.out.c6) | ((with_reducible refine gate_dst (N := 10) rfl ?_); refine bx_ (N := 10) (cs := #[.int .i64 0, .int .i64 0, .int .i64 0]) (t := 101) rfl rfl ?hr_17 ?_; (case hr_17 => first | (go_simp; done) | (go_simp; rfl)); intro gX6 hg w2 hb hk PX6 hPX6 HX6; have GEX6 := Aside0.mk (gen_ hg HB.out); have D_G_X6 := na hPX6 HG; have D_N_X6 := Aside0.mk (new_apart HN.out.lt hPX6); have D_E_X6 := Aside0.mk (new_apart HE.out.lt hPX6); have D_Q_X6 := Aside0.mk (new_apart HQ.out.lt hPX6); have D_X5_X6 := na hPX6 HX5; have RRX6 := Aside0.mk (rrn HK.out hPX6); replace HG := sn hk HG; replace HN := Aside0.mk (HN.out.step hk no_S); replace HE := Aside0.mk (HE.out.step hk no_S); replace HQ := Aside0.mk (HQ.out.step hk no_S); replace HX5 := sn hk HX5; replace HK := Aside0.mk (HK.out.then_ hk no_R); replace HB := Aside0.mk (below_step HB.out hb); clear hb hk hg hPX6; replace jG := HG.out.c5; replace jX5 := HX5.out.c6; replace jX6 := HX6.out.c3) | ((with_reducible refine gate_store (t := 101) (p := 10) rfl ?_); refine LB.storedW HX6.out HB.out GEX6.out [.int .i64 (node : Int), .int .i64 (d1 : Int), .int .i64 (i : Int)] rfl rfl (t := 101) (p := 10) rfl rfl ?hr_18 ?_; (case hr_18 => first | (go_simp; done) | (go_simp; simp only [World.setCells, Nat.reduceAdd, Nat.zero_add]; done)); intro w2 hx hk hb; replace HG := ss hk HG D_G_X6.out; replace HN := Aside0.mk (HN.out.step hk D_N_X6.out); replace HE := Aside0.mk (HE.out.step hk D_E_X6.out); replace HQ := Aside0.mk (HQ.out.step hk D_Q_X6.out); replace HX5 := ss hk HX5 D_X5_X6.out; replace HK := Aside0.mk (HK.out.then_ hk RRX6.out); replace HB := Aside0.mk hb; replace HX6 := Aside0.mk (show LB w2 PX6 gX6 101 #[.int .i64 (node : Int), .int .i64 (d1 : Int), .int .i64 (i : Int)] from hx); clear hk hx hb; replace jG := HG.out.c5; replace jX5 := HX5.out.c6; replace jX6 := HX6.out.c3))
  refine start_ (n := 11) (S := fun w' => w'.cell? ⟨gG, 3, none⟩ = some (.map (some gR)) ∧ w'.cell? ⟨gX6, 0, none⟩ = some (.int .i64 (node : Int)) ∧ w'.cell? ⟨gX6, 1, none⟩ = some (.int .i64 (d1 : Int)) ∧ w'.cell? ⟨gX6, 2, none⟩ = some (.int .i64 (i : Int))) (ds := []) #[false, false, false, false, false, false, false, false, false, false, false] (by kernel_rfl) rfl rfl ⟨jG.2.2.2.2.2.2.1, jX6.1, jX6.2.2.1, jX6.2.2.2.2.1⟩ (fun hHeld => ?_)
  refine with_tabW impl_onward.tab5 impl_onward.bits5 (fun HT_ HW_ => ?_)
  generalize hwd_ : World.drew w2 = wd_ at hHeld ⊢
  have hk := kept_drew hwd_
  replace HG := sn hk HG
  replace HN := Aside0.mk (HN.out.step hk no_S)
  replace HE := Aside0.mk (HE.out.step hk no_S)
  replace HQ := Aside0.mk (HQ.out.step hk no_S)
  replace HX5 := sn hk HX5
  replace HX6 := sn hk HX6
  replace HK := Aside0.mk (HK.out.then_ hk no_R)
  replace HB := Aside0.mk (below_drewd HB.out hwd_)
  clear hk hwd_
  replace jG := HG.out.c5
  replace jX5 := HX5.out.c6
  replace jX6 := HX6.out.c3
  refine pu 0 47 HT_.out rfl rfl rfl ?_
  refine pu 1 48 HT_.out rfl rfl rfl ?_
  refine pu 2 49 HT_.out rfl rfl rfl ?_
  refine tk 3 50 HT_.out HW_.out hHeld rfl rfl rfl ?_
  refine tk 4 51 HT_.out HW_.out hHeld rfl rfl rfl ?_
  rcases (HE.out).look3 node d1 i HKEY.out HND.out with hl_ | ⟨v_, hl_, hv_⟩
  ·
   refine on_ 5 (some 52) HT_.out rfl rfl fun K hK => ?_
   refine event_step (w1 := wd_) (v := .tuple #[.slice none 0 0, .bool false]) (by rfl) ?hr_19 ?_
   (case hr_19 => go_simp; first | done | (erw [hl_]; rfl))
   skip
   refine hK.out _ _ ⟨jG.2.2.2.2.2.2.1, jX6.1, jX6.2.2.1, jX6.2.2.2.2.1⟩ (fun hHeld => ?_)
   clear hK K
   refine norm_ (a' := ?_) ?_ ?_
   rotate_left
   ·
    show Act.put _ (some 52) _ = _
    simp only [Act.put, List.setIfInBounds_toArray, List.set_cons_zero, List.set_cons_succ, i64_w, i32_w]
    rfl
   refine pu 6 46 HT_.out rfl rfl rfl ?_
   refine pu 7 53 HT_.out rfl rfl rfl ?_
   refine pu 8 54 HT_.out rfl rfl rfl ?_
   refine pu 9 11 HT_.out rfl rfl rfl ?_
   refine pu 10 12 HT_.out rfl rfl rfl ?_
   refine done_ (done_of HT_.out (by kernel_rfl)) ?_
   by_cases hdf : d1 < F1
   ·
    have e1 : decide ((d1 : Int) < (F1 : Int)) = true := decide_eq_true (by omega)
    have e1n := decide_eq_true hdf
    have HDF := Aside0.mk hdf
    have HDD := Aside0.mk (show d1 = d from HD1.out.2 hdf)
    clear hdf
    obtain ⟨y, hy⟩ : ∃ y, l[0]? = some y := ⟨_, List.getElem?_eq_getElem (by have := HL1.out; omega)⟩
    obtain ⟨pk, ks2, hpk, hpn⟩ := HKID.out 0 y hy
    try dsimp only at hpk
    have HFY := Aside0.mk (HFF.out y (List.mem_of_getElem? hy) pk ks2 i)
    have HPN := Aside0.mk hpn
    have HPK := Aside0.mk hpk
    have hkq : 0 < ks.length := (List.getElem?_eq_some_iff.1 hpk).1
    have HKQ := Aside0.mk hkq
    have v1_ := eq_true (show ((0 : Nat) : Int) < (ks.length : Int) from Int.ofNat_lt.2 hkq)
    have v2_ := eq_true hkq
    have v0_ := eq_true (show (0 : Int) ≤ ((0 : Nat) : Int) from Int.natCast_nonneg _)
    clear hpk hpn hkq
    go_upto_region 27 with (first | ((with_reducible refine gate_callee (f := 50) rfl ?_); refine gl_ (some 58) rfl rfl Try.func50 #[.pointer (some ⟨gG, 0, none⟩)] rfl rfl ?_; (with_reducible refine (impl_none w _ PG gG T _ _ _ _ L HL.out HB.out HG.out HT.out).mono ?_); rintro e w2 ⟨BO, cO, PO, rfl, ho_, hb_, hk_, hn_⟩; refine ⟨_, rfl, ?_⟩; obtain ⟨gO, cq, he_, _, _, _⟩ := Kd.R_form ho_.1 (by rw [rowOf_len]; omega); injection he_ with ea_ el_ ec_; clear el_; subst ea_ ec_; have D_G_O := ap_ hn_ HG; have D_N_O := Aside0.mk (apn HN.out.lt hn_); have D_E_O := Aside0.mk (apn HE.out.lt hn_); have D_Q_O := Aside0.mk (apn HQ.out.lt hn_); have D_X5_O := ap_ hn_ HX5; have D_X6_O := ap_ hn_ HX6; replace HG := sn hk_ HG; replace HN := Aside0.mk (HN.out.step hk_ no_S); replace HE := Aside0.mk (HE.out.step hk_ no_S); replace HQ := Aside0.mk (HQ.out.step hk_ no_S); replace HX5 := sn hk_ HX5; replace HX6 := sn hk_ HX6; have RRO := Aside0.mk (rrm HK.out hn_); replace HK := Aside0.mk (HK.out.then_ hk_ no_R); replace HB := Aside0.mk hb_; have HO := Aside0.mk ho_; clear ho_ hb_ hk_ hn_; replace jG := HG.out.c5; replace jX5 := HX5.out.c6; replace jX6 := HX6.out.c3))
    obtain ⟨ad5, eA5, hk5⟩ := im_atI HQ.out 0 HKQ.out HPK.out
    rw [show ad5.add 0 = ad5 from rfl] at hk5
    go_wp2_with (first | ((with_reducible refine gate_callee (f := 38) rfl ?_); refine gl_ (some 157) rfl rfl Try.func38 #[.pointer (some ⟨gG, 0, none⟩), .int .i64 (pk : Int), .int .i64 (i : Int)] rfl rfl ?_; (with_reducible refine (HFY.out _ _ HPN.out HI.out ⟨HB.out, HG.out, HN.out, HE.out, D_G_E.out, D_N_E.out⟩).mono ?_); rintro e w2 ⟨PE7, AR, cR, rfl, ⟨hb_, hg_, hn_, he_, hge_, hne_⟩, hcl_, hF_, hm1_, hm2_, hkk_⟩; refine ⟨_, rfl, ?_⟩; dsimp only at hb_ hg_ hn_ he_ hge_ hne_ hcl_ hF_ hkk_; have D_Q_E7 := Aside0.mk (apart_app hm2_ HQ.out.lt D_Q_E.out); have D_X5_E7 := Aside0.mk (apart_app hm2_ HX5.out.lt (apart_symm D_E_X5.out)); have D_X6_E7 := Aside0.mk (apart_app hm2_ HX6.out.lt (apart_symm D_E_X6.out)); have D_O_E7 := Aside0.mk (apart_app hm2_ HO.out.lt (apart_symm D_E_O.out)); replace HQ := Aside0.mk (HQ.out.step hkk_ (imNotK D_Q_E.out HE.out.1)); replace HX5 := Aside0.mk (HX5.out.step hkk_ (imNotK (apart_symm D_E_X5.out) HE.out.1)); replace HX6 := Aside0.mk (HX6.out.step hkk_ (imNotK (apart_symm D_E_X6.out) HE.out.1)); replace HO := Aside0.mk (HO.out.step hkk_ (imNotK (apart_symm D_E_O.out) HE.out.1)); replace HM1 := Aside0.mk (fun k h => hm1_ k (HM1.out k h)); replace HM2 := Aside0.mk (show ∀ k, PE7 k → PE k ∨ ws.heap.size ≤ k from fun k h => (hm2_ k h).elim (HM2.out k) (fun h => .inr (Nat.le_trans HK.out.1 h))); have HR := Aside0.mk (imLN (base := w.heap.size) (rowOf_len' HL.out _) hcl_ hF_ (fun k h => he_.lt k h.1)); have D_R_K := Aside0.mk (show ∀ k, (PE7 k ∧ k ≠ gE ∧ k ≠ gR) → ¬ (k = gE ∨ k = gR) from fun k h1_ h2_ => h2_.elim h1_.2.1 h1_.2.2); have D_R_O := Aside0.mk (show ∀ k, (PE7 k ∧ k ≠ gE ∧ k ≠ gR) → ¬ PO k from fun k h1_ h2_ => D_O_E7.out k h2_ h1_.1); replace HK := Aside0.mk (HK.out.then_ hkk_ (fun _ h_ => .inl h_)); replace HB := Aside0.mk hb_; replace HG := Aside0.mk hg_; replace HN := Aside0.mk hn_; have HE7 := Aside0.mk he_; have D_G_E7 := Aside0.mk hge_; have D_N_E7 := Aside0.mk hne_; clear hb_ hg_ hn_ he_ hge_ hne_ hcl_ hF_ hm1_ hm2_ hkk_ HE; replace jG := HG.out.c5; replace jX5 := HX5.out.c6; replace jX6 := HX6.out.c3))
    obtain ⟨adR, eR_, _⟩ := im_atN HR.out 0 (by have := HL.out; omega)
    subst eR_
    have HY := Aside0.mk hy
    clear hy hk5
    go_loopg [159] (L + 1) (fun kq v159 w' => ∃ (e : Nat) (PE1 : Nat → Prop), v159 = .int .i64 (e : Int) ∧ Aside0 (e + kq = L + 1 ∧ 0 < kq) ∧ Aside0 (Below w.heap.size w w') ∧ Aside0 (LB w' PG gG 74 #[.string T, .slice (some adN) ns.length DN, .map (some gE), .map (some gR), VG]) ∧ Aside0 (LN kNA 76 w' w.heap.size PN (.slice (some adN) ns.length DN) ns) ∧ Aside0 (LN (Kd.int .i64) 3 w' w.heap.size PN (.slice A5 ks.length c5) ks) ∧ Aside0 (LB w' PX5 gX5 76 #[.int .i64 f0, .int .i64 (F1 : Int), .int .i64 f2, .string f3, .slice A4 l.length c4, .slice A5 ks.length c5]) ∧ Aside0 (LB w' PX6 gX6 101 #[.int .i64 (node : Int), .int .i64 (d1 : Int), .int .i64 (i : Int)]) ∧ Aside0 (LR Kd.bool 4 w' w.heap.size PO (.slice (some ⟨gO, 0, none⟩) L cO) (rowOf T.size (accK (fun _ => false) (fun q => mat (imTx T) T.size y i q) (onw (imTx T) T.size (⟨f0, (F1 : Int), f2, f3, l⟩ : S31) (d1 + 1)) e))) ∧ Aside0 (imK ⟨PG, PN, gG, gE, gR, some adN, DN, T, L, ns⟩ w' PE1) ∧ Aside0 (LN Kd.bool 4 w' w.heap.size (fun k => PE7 k ∧ k ≠ gE ∧ k ≠ gR) (.slice (some adR) L cR) (rowOf T.size (mat (imTx T) T.size y i))) ∧ Aside0 (∀ k, PG k → ¬ PE1 k) ∧ Aside0 (∀ k, PN k → ¬ PE1 k) ∧ Aside0 (∀ k, PN k → ¬ PE1 k) ∧ Aside0 (∀ k, PX5 k → ¬ PE1 k) ∧ Aside0 (∀ k, PX6 k → ¬ PE1 k) ∧ Aside0 (∀ k, PO k → ¬ PE1 k) ∧ Aside0 (Kept ws w' (fun k_ => k_ = gE ∨ k_ = gR)) ∧ Aside0 (∀ k, PE k → PE1 k) ∧ Aside0 (∀ k, PE1 k → PE k ∨ ws.heap.size ≤ k))
    case atStart => exact ⟨0, _, rfl, ⟨by omega, by omega⟩, HB, HG, HN, HQ, HX5, HX6, ⟨by rw [accK_zero]; exact HO.out⟩, HE7, HR, ⟨D_G_E7.out⟩, ⟨D_N_E7.out⟩, ⟨D_Q_E7.out⟩, ⟨D_X5_E7.out⟩, ⟨D_X6_E7.out⟩, ⟨D_O_E7.out⟩, HK, HM1, HM2⟩
    case round =>
     clear HB HK HM1 HM2 HG HN HQ HX5 HX6 HO HE7 HR
     clear D_G_E7 D_N_E7 D_Q_E7 D_X5_E7 D_X6_E7 D_O_E7
     try clear jG
     try clear jX5
     try clear jX6
     obtain ⟨e, PZ, rfl, HX, HB, HG, HN, HQ, HX5, HX6, HO, HZ, HR, D_G_Z, D_N_Z, D_Q_Z, D_X5_Z, D_X6_Z, D_O_Z, HK, HM1, HM2⟩ := hrel
     replace jG := HG.out.c5
     replace jX5 := HX5.out.c6
     replace jX6 := HX6.out.c3
     by_cases hlt : e < L
     ·
      obtain ⟨k1, rfl⟩ : ∃ k_, gk = k_ + 1 := ⟨gk - 1, by have := HX.out; omega⟩
      have HE2 := Aside0.mk (show e ≤ T.size ∧ e + 1 + k1 = L + 1 ∧ 0 < k1 from by have h1 := HX.out; have h2 := HL.out; exact ⟨by omega, by omega, by omega⟩)
      obtain ⟨_, eR_, hr0⟩ := im_atN HR.out e hlt
      cases eR_
      rw [rowOf_getD _ _ _ HE2.out.1] at hr0
      have hwe : wrap64 ((e : Int) + 1) = ((e + 1 : Nat) : Int) := by have := HE2.out; have := HT.out; unfold wrap64; omega
      have z1 := eq_true (show (0 : Int) ≤ (e : Int) from Int.natCast_nonneg _)
      have z2 := eq_true (show (e : Int) < (L : Int) from Int.ofNat_lt.2 hlt)
      have z2d := decide_eq_true (show (e : Int) < (L : Int) from Int.ofNat_lt.2 hlt)
      have z3 := eq_true hlt
      have z3d := decide_eq_true hlt
      clear hlt
      rcases hb_ : mat (imTx T) T.size y i e with _ | _
      ·
       rw [hb_] at hr0
       have HBF := Aside0.mk hb_
       clear hb_
       go_wp2
       go_roundg k1
       case measure => omega
       case rel => exact ⟨e + 1, _, by first | rfl | exact congrArg (Value.int .i64) hwe, ⟨HE2.out.2⟩, HB, HG, HN, HQ, HX5, HX6, ⟨by rw [accK_no _ _ _ _ (by simp [HBF.out])]; exact HO.out⟩, HZ, HR, ⟨D_G_Z.out⟩, ⟨D_N_Z.out⟩, ⟨D_Q_Z.out⟩, ⟨D_X5_Z.out⟩, ⟨D_X6_Z.out⟩, ⟨D_O_Z.out⟩, HK, HM1, HM2⟩
      rw [hb_] at hr0
      have HBT := Aside0.mk hb_
      clear hb_
      have HGT := Aside0.mk (show i ≤ e from ((mat_le (imTx T) T.size _).1 y (Nat.le_refl _) i e HBT.out))
      have IO := (fun (ws' : World) (PE' : Nat → Prop) h => IH.out node (d1 + 1) e ks ws' PE' (by have h1 := HMU.out; have h2 := HGT.out; have h3 := HE2.out; have h4 := HI.out; (try dsimp only at h1 h4); exact Nat.lt_of_lt_of_le (imMu h2 h3.1 (.inl ⟨by have h5 := HDD.out; omega, by have h5 := HDD.out; have h6 := HDF.out; have h7 := HF1.out; omega⟩)) (Nat.le_of_lt_succ h1)) ⟨fun h => absurd (h.symm.trans HK9.out) (by decide), fun _ => by have h6 := HDF.out; have h7 := HF1.out; omega⟩ HE2.out.1 HND.out h)
      try dsimp only at IO
      rw [show (((d1 + 1) : Nat) : Int) = (d1 : Int) + 1 from rfl] at IO
      replace IO := Aside0.mk IO
      have hwd : wrap64 ((d1 : Int) + 1) = (d1 : Int) + 1 := by have h6 := HDF.out; have h7 := HF1.out; unfold wrap64; omega
      have hwdk : IntKind.i64.wrap ((d1 : Int) + 1) = (d1 : Int) + 1 := (i64_w _).trans hwd
      go_wp2_with (first | ((with_reducible refine gate_callee (f := 54) rfl ?_); refine gl_ (some 171) rfl rfl Try.func54 #[.pointer (some ⟨gG, 0, none⟩), .int .i64 (node : Int), .int .i64 ((d1 : Int) + 1), .int .i64 (e : Int)] rfl rfl ?_; (with_reducible refine (IO.out _ _ ⟨HB.out, HG.out, HN.out, HZ.out, D_G_Z.out, D_N_Z.out⟩).mono ?_); rintro e w2 ⟨PE8, AS, cS, rfl, ⟨hb_, hg_, hn_, he_, hge_, hne_⟩, hcl_, hF_, hm1_, hm2_, hkk_⟩; refine ⟨_, rfl, ?_⟩; dsimp only at hb_ hg_ hn_ he_ hge_ hne_ hcl_ hF_ hkk_; have D_Q_E8 := Aside0.mk (apart_app hm2_ HQ.out.lt D_Q_Z.out); have D_X5_E8 := Aside0.mk (apart_app hm2_ HX5.out.lt D_X5_Z.out); have D_X6_E8 := Aside0.mk (apart_app hm2_ HX6.out.lt D_X6_Z.out); have D_O_E8 := Aside0.mk (apart_app hm2_ HO.out.lt D_O_Z.out); replace HQ := Aside0.mk (HQ.out.step hkk_ (imNotK D_Q_Z.out HZ.out.1)); replace HX5 := Aside0.mk (HX5.out.step hkk_ (imNotK D_X5_Z.out HZ.out.1)); replace HX6 := Aside0.mk (HX6.out.step hkk_ (imNotK D_X6_Z.out HZ.out.1)); replace HO := Aside0.mk (HO.out.step hkk_ (imNotK D_O_Z.out HZ.out.1)); replace HR := Aside0.mk (HR.out.step hkk_ D_R_K.out); replace HM1 := Aside0.mk (fun k h => hm1_ k (HM1.out k h)); replace HM2 := Aside0.mk (show ∀ k, PE8 k → PE k ∨ ws.heap.size ≤ k from fun k h => (hm2_ k h).elim (HM2.out k) (fun h => .inr (Nat.le_trans HK.out.1 h))); have HS := Aside0.mk (imLN (base := w.heap.size) (rowOf_len' HL.out _) hcl_ hF_ (fun k h => he_.lt k h.1)); have D_S_K := Aside0.mk (show ∀ k, (PE8 k ∧ k ≠ gE ∧ k ≠ gR) → ¬ (k = gE ∨ k = gR) from fun k h1_ h2_ => h2_.elim h1_.2.1 h1_.2.2); have D_S_O := Aside0.mk (show ∀ k, (PE8 k ∧ k ≠ gE ∧ k ≠ gR) → ¬ PO k from fun k h1_ h2_ => D_O_E8.out k h2_ h1_.1); replace HK := Aside0.mk (HK.out.then_ hkk_ (fun _ h_ => .inl h_)); replace HB := Aside0.mk hb_; replace HG := Aside0.mk hg_; replace HN := Aside0.mk hn_; have HE8 := Aside0.mk he_; have D_G_E8 := Aside0.mk hge_; have D_N_E8 := Aside0.mk hne_; clear hb_ hg_ hn_ he_ hge_ hne_ hcl_ hF_ hm1_ hm2_ hkk_ HZ; replace jG := HG.out.c5; replace jX5 := HX5.out.c6; replace jX6 := HX6.out.c3) | ((with_reducible refine gate_callee (f := 53) rfl ?_); refine gl_ (some 172) rfl rfl Try.func53 #[.slice (some ⟨gO, 0, none⟩) L cO, .slice AS L cS] rfl rfl ?_; (with_reducible refine (im_join w _ PO _ gO L cO T.size _ _ _ _ HL.out HT.out HB.out HO.out HS.out D_S_O.out).mono ?_); rintro e w2 ⟨rfl, ho_, hb_, hk_⟩; refine ⟨_, rfl, ?_⟩; replace HG := ss hk_ HG D_G_O.out; replace HN := Aside0.mk (HN.out.step hk_ D_N_O.out); replace HQ := Aside0.mk (HQ.out.step hk_ D_Q_O.out); replace HX5 := ss hk_ HX5 D_X5_O.out; replace HX6 := ss hk_ HX6 D_X6_O.out; replace HR := Aside0.mk (HR.out.step hk_ D_R_O.out); replace HE8 := Aside0.mk (HE8.out.step hk_ (apart_symm D_O_E8.out)); replace HS := Aside0.mk (HS.out.step hk_ D_S_O.out); replace HK := Aside0.mk (HK.out.then_ hk_ RRO.out); replace HB := Aside0.mk hb_; replace HO := Aside0.mk ho_; clear ho_ hb_ hk_; replace jG := HG.out.c5; replace jX5 := HX5.out.c6; replace jX6 := HX6.out.c3))
      go_roundg k1
      case measure => omega
      case rel => exact ⟨e + 1, _, by first | rfl | exact congrArg (Value.int .i64) hwe, ⟨HE2.out.2⟩, HB, HG, HN, HQ, HX5, HX6, ⟨by rw [accK_yes _ _ _ _ (by simp [HBT.out])]; exact HO.out⟩, HE8, HR, ⟨D_G_E8.out⟩, ⟨D_N_E8.out⟩, ⟨D_Q_E8.out⟩, ⟨D_X5_E8.out⟩, ⟨D_X6_E8.out⟩, ⟨D_O_E8.out⟩, HK, HM1, HM2⟩
     have hel : e = L := by have := HX.out; omega
     have z2d : decide ((e : Int) < (L : Int)) = false := decide_eq_false (by omega)
     have z3d : decide (e < L) = false := decide_eq_false hlt
     have HEL := Aside0.mk (show e = T.size + 1 from hel.trans HL.out)
     clear hel hlt
     have hrow_ : rowOf T.size (accK (fun _ => false) (fun q => mat (imTx T) T.size y i q) (onw (imTx T) T.size (⟨f0, (F1 : Int), f2, f3, l⟩ : S31) (d1 + 1)) e) = imOn T (⟨f0, (F1 : Int), f2, f3, l⟩ : S31) d1 i := by rw [HEL.out]; exact imMust (imTx T) T.size f0 (F1 : Int) f2 f3 l d1 i y HK9.out (by rw [Int.toNat_natCast]; exact HDF.out) HY.out
     replace HO := Aside0.mk (hrow_ ▸ HO.out)
     clear hrow_
     go_upto_region 33 with (fail)
     try dsimp only
     refine start_ (n := 7) (S := fun w' => w'.cell? ⟨gG, 3, none⟩ = some (.map (some gR)) ∧ w'.cell? ⟨gX6, 0, none⟩ = some (.int .i64 (node : Int)) ∧ w'.cell? ⟨gX6, 1, none⟩ = some (.int .i64 (d1 : Int)) ∧ w'.cell? ⟨gX6, 2, none⟩ = some (.int .i64 (i : Int))) (ds := [6]) #[false, false, false, false, false, false, false] (by kernel_rfl) rfl rfl ⟨jG.2.2.2.2.2.2.1, jX6.1, jX6.2.2.1, jX6.2.2.2.2.1⟩ (fun hHeld => ?_)
     refine with_tabW impl_onward.tab33 impl_onward.bits33 (fun HT_ HW_ => ?_)
     generalize hwd_ : World.drew wr = wd_ at hHeld ⊢
     have hk := kept_drew hwd_
     replace HG := sn hk HG
     replace HN := Aside0.mk (HN.out.step hk no_S)
     replace HQ := Aside0.mk (HQ.out.step hk no_S)
     replace HX5 := sn hk HX5
     replace HX6 := sn hk HX6
     replace HO := Aside0.mk (HO.out.step hk no_S)
     replace HZ := Aside0.mk (HZ.out.step hk no_S)
     replace HR := Aside0.mk (HR.out.step hk no_S)
     replace HK := Aside0.mk (HK.out.then_ hk no_R)
     replace HB := Aside0.mk (below_drewd HB.out hwd_)
     clear hk hwd_
     replace jG := HG.out.c5
     replace jX5 := HX5.out.c6
     replace jX6 := HX6.out.c3
     refine pu 0 174 HT_.out rfl rfl rfl ?_
     refine pu 1 175 HT_.out rfl rfl rfl ?_
     refine pu 2 176 HT_.out rfl rfl rfl ?_
     refine tk 3 177 HT_.out HW_.out hHeld rfl rfl rfl ?_
     refine tk 4 178 HT_.out HW_.out hHeld rfl rfl rfl ?_
     refine pu 5 179 HT_.out rfl rfl rfl ?_
     obtain ⟨w9, hput_, ⟨hst_, hkk_, hbb_⟩⟩ := (HZ.out).put3 HNE.out HL.out node d1 i HKEY.out HND.out HO.out D_O_Z.out
     dsimp only at hst_ hkk_ hbb_ hput_
     refine la_ 6 none HT_.out rfl rfl fun K hK => ?_
     refine skip_step (w1 := w9) (by rfl) rfl ?hr_24 ?_
     (case hr_24 => go_simp; first | done | (erw [hput_]; rfl))
     replace HG := Aside0.mk (HG.out.step hkk_ (fun k h1_ h2_ => D_G_Z.out k h1_ (h2_ ▸ HZ.out.1.2)))
     replace HN := Aside0.mk (HN.out.step hkk_ (fun k h1_ h2_ => D_N_Z.out k h1_ (h2_ ▸ HZ.out.1.2)))
     have hoF_ := Kd.F_kept (Kd.R_F HO.out.1) hkk_ (fun k h1_ h2_ => D_O_Z.out k h1_ (h2_ ▸ HZ.out.1.2))
     have hOE_ := Aside0.mk (fun k h1_ => D_O_Z.out k h1_)
     replace HK := Aside0.mk (HK.out.then_ hkk_ (fun _ h_ => .inl (.inr h_)))
     replace HB := Aside0.mk (hbb_ w HB.out HGE.out.2)
     skip
     refine hK.out _ _ ?_
     clear hK K
     refine done_ (done_of HT_.out (by kernel_rfl)) ?_
     go_wp2
     go_ret
     refine ⟨_, _, _, rfl, ⟨HB.out, HG.out, HN.out, hst_, fun k h1_ h2_ => h2_.elim (D_G_Z.out k h1_) (D_G_O.out k h1_), fun k h1_ h2_ => h2_.elim (D_N_Z.out k h1_) (D_N_O.out k h1_)⟩, ?_, Kd.F_mono (HEQ.out ▸ hoF_) (fun k h_ => ⟨.inr h_, fun e_ => hOE_.out k h_ (e_ ▸ HZ.out.1.1), fun e_ => hOE_.out k h_ (e_ ▸ HZ.out.1.2)⟩), fun k h_ => .inl (HM1.out k h_), fun k h_ => h_.elim (HM2.out k) (fun h2_ => (RRO.out k h2_).elim (fun h3_ => h3_.elim (fun e_ => absurd (e_ ▸ HZ.out.1.1) (hOE_.out k h2_)) (fun e_ => absurd (e_ ▸ HZ.out.1.2) (hOE_.out k h2_))) .inr), HK.out⟩
     have := HO.out.room; rw [rowOf_len' HL.out] at this; exact this
   have e1 : decide ((d1 : Int) < (F1 : Int)) = false := decide_eq_false (by omega)
   have e1n : decide (d1 < F1) = false := decide_eq_false hdf
   have HDF := Aside0.mk hdf
   clear hdf
   have HLE := Aside0.mk (show d1 ≤ 20 by have := HF1.out; have := HD1.out; omega)
   obtain ⟨y, hy⟩ : ∃ y, l[0]? = some y := ⟨_, List.getElem?_eq_getElem (by have := HL1.out; omega)⟩
   obtain ⟨pk, ks2, hpk, hpn⟩ := HKID.out 0 y hy
   try dsimp only at hpk
   have HFY := Aside0.mk (HFF.out y (List.mem_of_getElem? hy) pk ks2 i)
   have HPN := Aside0.mk hpn
   have HPK := Aside0.mk hpk
   have hkq : 0 < ks.length := (List.getElem?_eq_some_iff.1 hpk).1
   have HKQ := Aside0.mk hkq
   have v1_ := eq_true (show ((0 : Nat) : Int) < (ks.length : Int) from Int.ofNat_lt.2 hkq)
   have v2_ := eq_true hkq
   have v0_ := eq_true (show (0 : Int) ≤ ((0 : Nat) : Int) from Int.natCast_nonneg _)
   clear hpk hpn hkq
   go_upto_region 9 with (first | ((with_reducible refine gate_callee (f := 50) rfl ?_); refine gl_ (some 58) rfl rfl Try.func50 #[.pointer (some ⟨gG, 0, none⟩)] rfl rfl ?_; (with_reducible refine (impl_none w _ PG gG T _ _ _ _ L HL.out HB.out HG.out HT.out).mono ?_); rintro e w2 ⟨BO, cO, PO, rfl, ho_, hb_, hk_, hn_⟩; refine ⟨_, rfl, ?_⟩; obtain ⟨gO, cq, he_, _, _, _⟩ := Kd.R_form ho_.1 (by rw [rowOf_len]; omega); injection he_ with ea_ el_ ec_; clear el_; subst ea_ ec_; have D_G_O := ap_ hn_ HG; have D_N_O := Aside0.mk (apn HN.out.lt hn_); have D_E_O := Aside0.mk (apn HE.out.lt hn_); have D_Q_O := Aside0.mk (apn HQ.out.lt hn_); have D_X5_O := ap_ hn_ HX5; have D_X6_O := ap_ hn_ HX6; replace HG := sn hk_ HG; replace HN := Aside0.mk (HN.out.step hk_ no_S); replace HE := Aside0.mk (HE.out.step hk_ no_S); replace HQ := Aside0.mk (HQ.out.step hk_ no_S); replace HX5 := sn hk_ HX5; replace HX6 := sn hk_ HX6; have RRO := Aside0.mk (rrm HK.out hn_); replace HK := Aside0.mk (HK.out.then_ hk_ no_R); replace HB := Aside0.mk hb_; have HO := Aside0.mk ho_; clear ho_ hb_ hk_ hn_; replace jG := HG.out.c5; replace jX5 := HX5.out.c6; replace jX6 := HX6.out.c3))
   obtain ⟨hy0, hy1⟩ := im_at HO.out i (by have := HI.out; have := HL.out; omega)
   have z1 := eq_true (show (0 : Int) ≤ (i : Int) from Int.natCast_nonneg _)
   have z2 := eq_true (show (i : Int) < (L : Int) by have := HI.out; have := HL.out; omega)
   have z3 := eq_true (show i < L by have := HI.out; have := HL.out; omega)
   go_upto_region 11 with (first | ((with_reducible refine gate_store (t := 4) (p := 61) rfl ?_); refine im_put1 HO.out HB.out i (by have := HI.out; have := HL.out; omega) true rfl (t := 4) (p := 61) rfl rfl ?hr_26 ?_; (case hr_26 => first | (go_simp; done) | (go_simp; simp only [World.setCells, Nat.reduceAdd, Nat.zero_add]; done)); intro w2 hx hk hb; replace HG := ss hk HG D_G_O.out; replace HN := Aside0.mk (HN.out.step hk D_N_O.out); replace HE := Aside0.mk (HE.out.step hk D_E_O.out); replace HQ := Aside0.mk (HQ.out.step hk D_Q_O.out); replace HX5 := ss hk HX5 D_X5_O.out; replace HX6 := ss hk HX6 D_X6_O.out; replace HK := Aside0.mk (HK.out.then_ hk RRO.out); replace HB := Aside0.mk hb; rw [rowOf_set] at hx; replace HO := Aside0.mk hx; clear hk hx hb; (try clear hy0 hy1); replace jG := HG.out.c5; replace jX5 := HX5.out.c6; replace jX6 := HX6.out.c3))
   try clear z1 z2 z3
   obtain ⟨ad5, eA5, hk5⟩ := im_atI HQ.out 0 HKQ.out HPK.out
   rw [show ad5.add 0 = ad5 from rfl] at hk5
   go_wp2_with (first | ((with_reducible refine gate_callee (f := 38) rfl ?_); refine gl_ (some 79) rfl rfl Try.func38 #[.pointer (some ⟨gG, 0, none⟩), .int .i64 (pk : Int), .int .i64 (i : Int)] rfl rfl ?_; (with_reducible refine (HFY.out _ _ HPN.out HI.out ⟨HB.out, HG.out, HN.out, HE.out, D_G_E.out, D_N_E.out⟩).mono ?_); rintro e w2 ⟨PE9, AR, cR, rfl, ⟨hb_, hg_, hn_, he_, hge_, hne_⟩, hcl_, hF_, hm1_, hm2_, hkk_⟩; refine ⟨_, rfl, ?_⟩; dsimp only at hb_ hg_ hn_ he_ hge_ hne_ hcl_ hF_ hkk_; have D_Q_E9 := Aside0.mk (apart_app hm2_ HQ.out.lt D_Q_E.out); have D_X5_E9 := Aside0.mk (apart_app hm2_ HX5.out.lt (apart_symm D_E_X5.out)); have D_X6_E9 := Aside0.mk (apart_app hm2_ HX6.out.lt (apart_symm D_E_X6.out)); have D_O_E9 := Aside0.mk (apart_app hm2_ HO.out.lt (apart_symm D_E_O.out)); replace HQ := Aside0.mk (HQ.out.step hkk_ (imNotK D_Q_E.out HE.out.1)); replace HX5 := Aside0.mk (HX5.out.step hkk_ (imNotK (apart_symm D_E_X5.out) HE.out.1)); replace HX6 := Aside0.mk (HX6.out.step hkk_ (imNotK (apart_symm D_E_X6.out) HE.out.1)); replace HO := Aside0.mk (HO.out.step hkk_ (imNotK (apart_symm D_E_O.out) HE.out.1)); replace HM1 := Aside0.mk (fun k h => hm1_ k (HM1.out k h)); replace HM2 := Aside0.mk (show ∀ k, PE9 k → PE k ∨ ws.heap.size ≤ k from fun k h => (hm2_ k h).elim (HM2.out k) (fun h => .inr (Nat.le_trans HK.out.1 h))); have HR := Aside0.mk (imLN (base := w.heap.size) (rowOf_len' HL.out _) hcl_ hF_ (fun k h => he_.lt k h.1)); have D_R_K := Aside0.mk (show ∀ k, (PE9 k ∧ k ≠ gE ∧ k ≠ gR) → ¬ (k = gE ∨ k = gR) from fun k h1_ h2_ => h2_.elim h1_.2.1 h1_.2.2); have D_R_O := Aside0.mk (show ∀ k, (PE9 k ∧ k ≠ gE ∧ k ≠ gR) → ¬ PO k from fun k h1_ h2_ => D_O_E9.out k h2_ h1_.1); replace HK := Aside0.mk (HK.out.then_ hkk_ (fun _ h_ => .inl h_)); replace HB := Aside0.mk hb_; replace HG := Aside0.mk hg_; replace HN := Aside0.mk hn_; have HE9 := Aside0.mk he_; have D_G_E9 := Aside0.mk hge_; have D_N_E9 := Aside0.mk hne_; clear hb_ hg_ hn_ he_ hge_ hne_ hcl_ hF_ hm1_ hm2_ hkk_ HE; replace jG := HG.out.c5; replace jX5 := HX5.out.c6; replace jX6 := HX6.out.c3))
   obtain ⟨adR, eR_, _⟩ := im_atN HR.out 0 (by have := HL.out; omega)
   subst eR_
   have HY := Aside0.mk hy
   clear hy hk5
   go_loopg [81] (L + 1) (fun kq v81 w' => ∃ (e : Nat) (PE1 : Nat → Prop), v81 = .int .i64 (e : Int) ∧ Aside0 (e + kq = L + 1 ∧ 0 < kq) ∧ Aside0 (Below w.heap.size w w') ∧ Aside0 (LB w' PG gG 74 #[.string T, .slice (some adN) ns.length DN, .map (some gE), .map (some gR), VG]) ∧ Aside0 (LN kNA 76 w' w.heap.size PN (.slice (some adN) ns.length DN) ns) ∧ Aside0 (LN (Kd.int .i64) 3 w' w.heap.size PN (.slice A5 ks.length c5) ks) ∧ Aside0 (LB w' PX5 gX5 76 #[.int .i64 f0, .int .i64 (F1 : Int), .int .i64 f2, .string f3, .slice A4 l.length c4, .slice A5 ks.length c5]) ∧ Aside0 (LB w' PX6 gX6 101 #[.int .i64 (node : Int), .int .i64 (d1 : Int), .int .i64 (i : Int)]) ∧ Aside0 (LR Kd.bool 4 w' w.heap.size PO (.slice (some ⟨gO, 0, none⟩) L cO) (rowOf T.size (accK (fun j => if j = i then true else false) (fun q => mat (imTx T) T.size y i q && decide (i < q)) (onw (imTx T) T.size (⟨f0, (F1 : Int), f2, f3, l⟩ : S31) (d1 + 1)) e))) ∧ Aside0 (imK ⟨PG, PN, gG, gE, gR, some adN, DN, T, L, ns⟩ w' PE1) ∧ Aside0 (LN Kd.bool 4 w' w.heap.size (fun k => PE9 k ∧ k ≠ gE ∧ k ≠ gR) (.slice (some adR) L cR) (rowOf T.size (mat (imTx T) T.size y i))) ∧ Aside0 (∀ k, PG k → ¬ PE1 k) ∧ Aside0 (∀ k, PN k → ¬ PE1 k) ∧ Aside0 (∀ k, PN k → ¬ PE1 k) ∧ Aside0 (∀ k, PX5 k → ¬ PE1 k) ∧ Aside0 (∀ k, PX6 k → ¬ PE1 k) ∧ Aside0 (∀ k, PO k → ¬ PE1 k) ∧ Aside0 (Kept ws w' (fun k_ => k_ = gE ∨ k_ = gR)) ∧ Aside0 (∀ k, PE k → PE1 k) ∧ Aside0 (∀ k, PE1 k → PE k ∨ ws.heap.size ≤ k))
   case atStart => exact ⟨0, _, rfl, ⟨by omega, by omega⟩, HB, HG, HN, HQ, HX5, HX6, ⟨by rw [accK_zero]; exact HO.out⟩, HE9, HR, ⟨D_G_E9.out⟩, ⟨D_N_E9.out⟩, ⟨D_Q_E9.out⟩, ⟨D_X5_E9.out⟩, ⟨D_X6_E9.out⟩, ⟨D_O_E9.out⟩, HK, HM1, HM2⟩
   case round =>
    clear HB HK HM1 HM2 HG HN HQ HX5 HX6 HO HE9 HR
    clear D_G_E9 D_N_E9 D_Q_E9 D_X5_E9 D_X6_E9 D_O_E9
    try clear jG
    try clear jX5
    try clear jX6
    obtain ⟨e, PZ, rfl, HX, HB, HG, HN, HQ, HX5, HX6, HO, HZ, HR, D_G_Z, D_N_Z, D_Q_Z, D_X5_Z, D_X6_Z, D_O_Z, HK, HM1, HM2⟩ := hrel
    replace jG := HG.out.c5
    replace jX5 := HX5.out.c6
    replace jX6 := HX6.out.c3
    by_cases hlt : e < L
    ·
     obtain ⟨k1, rfl⟩ : ∃ k_, gk = k_ + 1 := ⟨gk - 1, by have := HX.out; omega⟩
     have HE2 := Aside0.mk (show e ≤ T.size ∧ e + 1 + k1 = L + 1 ∧ 0 < k1 from by have h1 := HX.out; have h2 := HL.out; exact ⟨by omega, by omega, by omega⟩)
     obtain ⟨_, eR_, hr0⟩ := im_atN HR.out e hlt
     cases eR_
     rw [rowOf_getD _ _ _ HE2.out.1] at hr0
     have hwe : wrap64 ((e : Int) + 1) = ((e + 1 : Nat) : Int) := by have := HE2.out; have := HT.out; unfold wrap64; omega
     have z1 := eq_true (show (0 : Int) ≤ (e : Int) from Int.natCast_nonneg _)
     have z2 := eq_true (show (e : Int) < (L : Int) from Int.ofNat_lt.2 hlt)
     have z2d := decide_eq_true (show (e : Int) < (L : Int) from Int.ofNat_lt.2 hlt)
     have z3 := eq_true hlt
     have z3d := decide_eq_true hlt
     clear hlt
     rcases hb_ : mat (imTx T) T.size y i e with _ | _
     ·
      rw [hb_] at hr0
      have HBF := Aside0.mk hb_
      clear hb_
      go_wp2
      go_roundg k1
      case measure => omega
      case rel => exact ⟨e + 1, _, by first | rfl | exact congrArg (Value.int .i64) hwe, ⟨HE2.out.2⟩, HB, HG, HN, HQ, HX5, HX6, ⟨by rw [accK_no _ _ _ _ (by simp [HBF.out])]; exact HO.out⟩, HZ, HR, ⟨D_G_Z.out⟩, ⟨D_N_Z.out⟩, ⟨D_Q_Z.out⟩, ⟨D_X5_Z.out⟩, ⟨D_X6_Z.out⟩, ⟨D_O_Z.out⟩, HK, HM1, HM2⟩
     rw [hb_] at hr0
     have HBT := Aside0.mk hb_
     clear hb_
     by_cases hgt : i < e
     ·
      have g1 : decide ((i : Int) < (e : Int)) = true := decide_eq_true (Int.ofNat_lt.2 hgt)
      have g2 := decide_eq_true hgt
      have HGT := Aside0.mk hgt
      clear hgt
      have IO := (fun (ws' : World) (PE' : Nat → Prop) h => IH.out node (d1 + 1) e ks ws' PE' (by have h1 := HMU.out; have h2 := HGT.out; have h3 := HE2.out; have h4 := HI.out; (try dsimp only at h1 h4); exact Nat.lt_of_lt_of_le (imMu (Nat.le_of_lt h2) h3.1 (.inr ⟨h2, by have h6 := HLE.out; omega⟩)) (Nat.le_of_lt_succ h1)) ⟨fun h => absurd (h.symm.trans HK9.out) (by decide), fun _ => by have h6 := HLE.out; omega⟩ HE2.out.1 HND.out h)
      try dsimp only at IO
      rw [show (((d1 + 1) : Nat) : Int) = (d1 : Int) + 1 from rfl] at IO
      replace IO := Aside0.mk IO
      have hwd : wrap64 ((d1 : Int) + 1) = (d1 : Int) + 1 := by have h6 := HLE.out; unfold wrap64; omega
      have hwdk : IntKind.i64.wrap ((d1 : Int) + 1) = (d1 : Int) + 1 := (i64_w _).trans hwd
      go_wp2_with (first | ((with_reducible refine gate_callee (f := 54) rfl ?_); refine gl_ (some 98) rfl rfl Try.func54 #[.pointer (some ⟨gG, 0, none⟩), .int .i64 (node : Int), .int .i64 ((d1 : Int) + 1), .int .i64 (e : Int)] rfl rfl ?_; (with_reducible refine (IO.out _ _ ⟨HB.out, HG.out, HN.out, HZ.out, D_G_Z.out, D_N_Z.out⟩).mono ?_); rintro e w2 ⟨PE10, AS, cS, rfl, ⟨hb_, hg_, hn_, he_, hge_, hne_⟩, hcl_, hF_, hm1_, hm2_, hkk_⟩; refine ⟨_, rfl, ?_⟩; dsimp only at hb_ hg_ hn_ he_ hge_ hne_ hcl_ hF_ hkk_; have D_Q_E10 := Aside0.mk (apart_app hm2_ HQ.out.lt D_Q_Z.out); have D_X5_E10 := Aside0.mk (apart_app hm2_ HX5.out.lt D_X5_Z.out); have D_X6_E10 := Aside0.mk (apart_app hm2_ HX6.out.lt D_X6_Z.out); have D_O_E10 := Aside0.mk (apart_app hm2_ HO.out.lt D_O_Z.out); replace HQ := Aside0.mk (HQ.out.step hkk_ (imNotK D_Q_Z.out HZ.out.1)); replace HX5 := Aside0.mk (HX5.out.step hkk_ (imNotK D_X5_Z.out HZ.out.1)); replace HX6 := Aside0.mk (HX6.out.step hkk_ (imNotK D_X6_Z.out HZ.out.1)); replace HO := Aside0.mk (HO.out.step hkk_ (imNotK D_O_Z.out HZ.out.1)); replace HR := Aside0.mk (HR.out.step hkk_ D_R_K.out); replace HM1 := Aside0.mk (fun k h => hm1_ k (HM1.out k h)); replace HM2 := Aside0.mk (show ∀ k, PE10 k → PE k ∨ ws.heap.size ≤ k from fun k h => (hm2_ k h).elim (HM2.out k) (fun h => .inr (Nat.le_trans HK.out.1 h))); have HS := Aside0.mk (imLN (base := w.heap.size) (rowOf_len' HL.out _) hcl_ hF_ (fun k h => he_.lt k h.1)); have D_S_K := Aside0.mk (show ∀ k, (PE10 k ∧ k ≠ gE ∧ k ≠ gR) → ¬ (k = gE ∨ k = gR) from fun k h1_ h2_ => h2_.elim h1_.2.1 h1_.2.2); have D_S_O := Aside0.mk (show ∀ k, (PE10 k ∧ k ≠ gE ∧ k ≠ gR) → ¬ PO k from fun k h1_ h2_ => D_O_E10.out k h2_ h1_.1); replace HK := Aside0.mk (HK.out.then_ hkk_ (fun _ h_ => .inl h_)); replace HB := Aside0.mk hb_; replace HG := Aside0.mk hg_; replace HN := Aside0.mk hn_; have HE10 := Aside0.mk he_; have D_G_E10 := Aside0.mk hge_; have D_N_E10 := Aside0.mk hne_; clear hb_ hg_ hn_ he_ hge_ hne_ hcl_ hF_ hm1_ hm2_ hkk_ HZ; replace jG := HG.out.c5; replace jX5 := HX5.out.c6; replace jX6 := HX6.out.c3) | ((with_reducible refine gate_callee (f := 53) rfl ?_); refine gl_ (some 99) rfl rfl Try.func53 #[.slice (some ⟨gO, 0, none⟩) L cO, .slice AS L cS] rfl rfl ?_; (with_reducible refine (im_join w _ PO _ gO L cO T.size _ _ _ _ HL.out HT.out HB.out HO.out HS.out D_S_O.out).mono ?_); rintro e w2 ⟨rfl, ho_, hb_, hk_⟩; refine ⟨_, rfl, ?_⟩; replace HG := ss hk_ HG D_G_O.out; replace HN := Aside0.mk (HN.out.step hk_ D_N_O.out); replace HQ := Aside0.mk (HQ.out.step hk_ D_Q_O.out); replace HX5 := ss hk_ HX5 D_X5_O.out; replace HX6 := ss hk_ HX6 D_X6_O.out; replace HR := Aside0.mk (HR.out.step hk_ D_R_O.out); replace HE10 := Aside0.mk (HE10.out.step hk_ (apart_symm D_O_E10.out)); replace HS := Aside0.mk (HS.out.step hk_ D_S_O.out); replace HK := Aside0.mk (HK.out.then_ hk_ RRO.out); replace HB := Aside0.mk hb_; replace HO := Aside0.mk ho_; clear ho_ hb_ hk_; replace jG := HG.out.c5; replace jX5 := HX5.out.c6; replace jX6 := HX6.out.c3))
      go_roundg k1
      case measure => omega
      case rel => exact ⟨e + 1, _, by first | rfl | exact congrArg (Value.int .i64) hwe, ⟨HE2.out.2⟩, HB, HG, HN, HQ, HX5, HX6, ⟨by rw [accK_yes _ _ _ _ (by simp [HBT.out, HGT.out])]; exact HO.out⟩, HE10, HR, ⟨D_G_E10.out⟩, ⟨D_N_E10.out⟩, ⟨D_Q_E10.out⟩, ⟨D_X5_E10.out⟩, ⟨D_X6_E10.out⟩, ⟨D_O_E10.out⟩, HK, HM1, HM2⟩
     have g1 : decide ((i : Int) < (e : Int)) = false := decide_eq_false (by omega)
     have g2 : decide (i < e) = false := decide_eq_false hgt
     have HGT := Aside0.mk hgt
     clear hgt
     go_wp2
     go_roundg k1
     case measure => omega
     case rel => exact ⟨e + 1, _, by first | rfl | exact congrArg (Value.int .i64) hwe, ⟨HE2.out.2⟩, HB, HG, HN, HQ, HX5, HX6, ⟨by rw [accK_no _ _ _ _ (by simp [HGT.out])]; exact HO.out⟩, HZ, HR, ⟨D_G_Z.out⟩, ⟨D_N_Z.out⟩, ⟨D_Q_Z.out⟩, ⟨D_X5_Z.out⟩, ⟨D_X6_Z.out⟩, ⟨D_O_Z.out⟩, HK, HM1, HM2⟩
    have hel : e = L := by have := HX.out; omega
    have z2d : decide ((e : Int) < (L : Int)) = false := decide_eq_false (by omega)
    have z3d : decide (e < L) = false := decide_eq_false hlt
    have HEL := Aside0.mk (show e = T.size + 1 from hel.trans HL.out)
    clear hel hlt
    have hrow_ : rowOf T.size (accK (fun j => if j = i then true else false) (fun q => mat (imTx T) T.size y i q && decide (i < q)) (onw (imTx T) T.size (⟨f0, (F1 : Int), f2, f3, l⟩ : S31) (d1 + 1)) e) = imOn T (⟨f0, (F1 : Int), f2, f3, l⟩ : S31) d1 i := by rw [HEL.out]; exact imMore (imTx T) T.size f0 (F1 : Int) f2 f3 l d1 i y HK9.out (by rw [Int.toNat_natCast]; exact HDF.out) (.inl CM.out) HY.out
    replace HO := Aside0.mk (hrow_ ▸ HO.out)
    clear hrow_
    go_upto_region 33 with (fail)
    try dsimp only
    refine start_ (n := 7) (S := fun w' => w'.cell? ⟨gG, 3, none⟩ = some (.map (some gR)) ∧ w'.cell? ⟨gX6, 0, none⟩ = some (.int .i64 (node : Int)) ∧ w'.cell? ⟨gX6, 1, none⟩ = some (.int .i64 (d1 : Int)) ∧ w'.cell? ⟨gX6, 2, none⟩ = some (.int .i64 (i : Int))) (ds := [6]) #[false, false, false, false, false, false, false] (by kernel_rfl) rfl rfl ⟨jG.2.2.2.2.2.2.1, jX6.1, jX6.2.2.1, jX6.2.2.2.2.1⟩ (fun hHeld => ?_)
    refine with_tabW impl_onward.tab33 impl_onward.bits33 (fun HT_ HW_ => ?_)
    generalize hwd_ : World.drew wr = wd_ at hHeld ⊢
    have hk := kept_drew hwd_
    replace HG := sn hk HG
    replace HN := Aside0.mk (HN.out.step hk no_S)
    replace HQ := Aside0.mk (HQ.out.step hk no_S)
    replace HX5 := sn hk HX5
    replace HX6 := sn hk HX6
    replace HO := Aside0.mk (HO.out.step hk no_S)
    replace HZ := Aside0.mk (HZ.out.step hk no_S)
    replace HR := Aside0.mk (HR.out.step hk no_S)
    replace HK := Aside0.mk (HK.out.then_ hk no_R)
    replace HB := Aside0.mk (below_drewd HB.out hwd_)
    clear hk hwd_
    replace jG := HG.out.c5
    replace jX5 := HX5.out.c6
    replace jX6 := HX6.out.c3
    refine pu 0 174 HT_.out rfl rfl rfl ?_
    refine pu 1 175 HT_.out rfl rfl rfl ?_
    refine pu 2 176 HT_.out rfl rfl rfl ?_
    refine tk 3 177 HT_.out HW_.out hHeld rfl rfl rfl ?_
    refine tk 4 178 HT_.out HW_.out hHeld rfl rfl rfl ?_
    refine pu 5 179 HT_.out rfl rfl rfl ?_
    obtain ⟨w9, hput_, ⟨hst_, hkk_, hbb_⟩⟩ := (HZ.out).put3 HNE.out HL.out node d1 i HKEY.out HND.out HO.out D_O_Z.out
    dsimp only at hst_ hkk_ hbb_ hput_
    refine la_ 6 none HT_.out rfl rfl fun K hK => ?_
    refine skip_step (w1 := w9) (by rfl) rfl ?hr_30 ?_
    (case hr_30 => go_simp; first | done | (erw [hput_]; rfl))
    replace HG := Aside0.mk (HG.out.step hkk_ (fun k h1_ h2_ => D_G_Z.out k h1_ (h2_ ▸ HZ.out.1.2)))
    replace HN := Aside0.mk (HN.out.step hkk_ (fun k h1_ h2_ => D_N_Z.out k h1_ (h2_ ▸ HZ.out.1.2)))
    have hoF_ := Kd.F_kept (Kd.R_F HO.out.1) hkk_ (fun k h1_ h2_ => D_O_Z.out k h1_ (h2_ ▸ HZ.out.1.2))
    have hOE_ := Aside0.mk (fun k h1_ => D_O_Z.out k h1_)
    replace HK := Aside0.mk (HK.out.then_ hkk_ (fun _ h_ => .inl (.inr h_)))
    replace HB := Aside0.mk (hbb_ w HB.out HGE.out.2)
    skip
    refine hK.out _ _ ?_
    clear hK K
    refine done_ (done_of HT_.out (by kernel_rfl)) ?_
    go_wp2
    go_ret
    refine ⟨_, _, _, rfl, ⟨HB.out, HG.out, HN.out, hst_, fun k h1_ h2_ => h2_.elim (D_G_Z.out k h1_) (D_G_O.out k h1_), fun k h1_ h2_ => h2_.elim (D_N_Z.out k h1_) (D_N_O.out k h1_)⟩, ?_, Kd.F_mono (HEQ.out ▸ hoF_) (fun k h_ => ⟨.inr h_, fun e_ => hOE_.out k h_ (e_ ▸ HZ.out.1.1), fun e_ => hOE_.out k h_ (e_ ▸ HZ.out.1.2)⟩), fun k h_ => .inl (HM1.out k h_), fun k h_ => h_.elim (HM2.out k) (fun h2_ => (RRO.out k h2_).elim (fun h3_ => h3_.elim (fun e_ => absurd (e_ ▸ HZ.out.1.1) (hOE_.out k h2_)) (fun e_ => absurd (e_ ▸ HZ.out.1.2) (hOE_.out k h2_))) .inr), HK.out⟩
    have := HO.out.room; rw [rowOf_len' HL.out] at this; exact this
  refine on_ 5 (some 52) HT_.out rfl rfl fun K hK => ?_
  refine event_step (w1 := wd_) (v := .tuple #[v_, .bool true]) (by rfl) ?hr_31 ?_
  (case hr_31 => go_simp; first | done | (erw [hl_]; rfl))
  skip
  refine hK.out _ _ ⟨jG.2.2.2.2.2.2.1, jX6.1, jX6.2.2.1, jX6.2.2.2.2.1⟩ (fun hHeld => ?_)
  clear hK K
  refine norm_ (a' := ?_) ?_ ?_
  rotate_left
  ·
   show Act.put _ (some 52) _ = _
   simp only [Act.put, List.setIfInBounds_toArray, List.set_cons_zero, List.set_cons_succ, i64_w, i32_w]
   rfl
  refine pu 6 46 HT_.out rfl rfl rfl ?_
  refine pu 7 53 HT_.out rfl rfl rfl ?_
  refine pu 8 54 HT_.out rfl rfl rfl ?_
  refine pu 9 11 HT_.out rfl rfl rfl ?_
  refine pu 10 12 HT_.out rfl rfl rfl ?_
  refine done_ (done_of HT_.out (by kernel_rfl)) ?_
  obtain ⟨A_, c_, rfl, hlc_, hF_⟩ := hv_
  dsimp only at hlc_ hF_
  go_wp2
  go_ret
  exact ⟨PE, A_, c_, rfl, ⟨HB.out, HG.out, HN.out, HE.out, D_G_E.out, D_N_E.out⟩, hlc_, HEQ.out ▸ hF_, HM1.out, HM2.out, HK.out⟩
 have CM := Aside0.mk cm
 have cmb : decide (f2 < 0) = false := decide_eq_false cm
 have HKEY := Aside0.mk (show node < 9223372036854775808 ∧ d < 9223372036854775808 ∧ i < 9223372036854775808 from ⟨by have := HNL.out; omega, by have := HD9.out; omega, by have := HT.out; omega⟩)
 clear cm hfm hd9
 go_enter Try.func54, Try.ntmps54
 go_upto_region 5 with (first | ((with_reducible refine gate_dst (N := 9) rfl ?_); refine bx_ (N := 9) (cs := #[.int .i64 0, .int .i64 0, .int .i64 0, .string ByteArray.empty, .slice none 0 0, .slice none 0 0]) (t := 76) rfl rfl ?hr_32 ?_; (case hr_32 => first | (go_simp; done) | (go_simp; rfl)); intro gX11 hg w2 hb hk PX11 hPX11 HX11; have GEX11 := Aside0.mk (gen_ hg HB.out); have D_G_X11 := na hPX11 HG; have D_N_X11 := Aside0.mk (new_apart HN.out.lt hPX11); have D_E_X11 := Aside0.mk (new_apart HE.out.lt hPX11); have D_Q_X11 := Aside0.mk (new_apart HQ.out.lt hPX11); have RRX11 := Aside0.mk (rrn HK.out hPX11); replace HG := sn hk HG; replace HN := Aside0.mk (HN.out.step hk no_S); replace HE := Aside0.mk (HE.out.step hk no_S); replace HQ := Aside0.mk (HQ.out.step hk no_S); replace HK := Aside0.mk (HK.out.then_ hk no_R); replace HB := Aside0.mk (below_step HB.out hb); clear hb hk hg hPX11; replace jG := HG.out.c5; replace jX11 := HX11.out.c6) | ((with_reducible refine gate_store (t := 76) (p := 9) rfl ?_); refine LB.storedW HX11.out HB.out GEX11.out [.int .i64 f0, .int .i64 (F1 : Int), .int .i64 f2, .string f3, .slice A4 l.length c4, .slice A5 ks.length c5] rfl rfl (t := 76) (p := 9) rfl rfl ?hr_33 ?_; (case hr_33 => first | (go_simp; done) | (go_simp; simp only [World.setCells, Nat.reduceAdd, Nat.zero_add]; done)); intro w2 hx hk hb; replace HG := ss hk HG D_G_X11.out; replace HN := Aside0.mk (HN.out.step hk D_N_X11.out); replace HE := Aside0.mk (HE.out.step hk D_E_X11.out); replace HQ := Aside0.mk (HQ.out.step hk D_Q_X11.out); replace HK := Aside0.mk (HK.out.then_ hk RRX11.out); replace HB := Aside0.mk hb; replace HX11 := Aside0.mk (show LB w2 PX11 gX11 76 #[.int .i64 f0, .int .i64 (F1 : Int), .int .i64 f2, .string f3, .slice A4 l.length c4, .slice A5 ks.length c5] from hx); clear hk hx hb; replace jG := HG.out.c5; replace jX11 := HX11.out.c6) | ((with_reducible refine gate_dst (N := 10) rfl ?_); refine bx_ (N := 10) (cs := #[.int .i64 0, .int .i64 0, .int .i64 0]) (t := 101) rfl rfl ?hr_34 ?_; (case hr_34 => first | (go_simp; done) | (go_simp; rfl)); intro gX12 hg w2 hb hk PX12 hPX12 HX12; have GEX12 := Aside0.mk (gen_ hg HB.out); have D_G_X12 := na hPX12 HG; have D_N_X12 := Aside0.mk (new_apart HN.out.lt hPX12); have D_E_X12 := Aside0.mk (new_apart HE.out.lt hPX12); have D_Q_X12 := Aside0.mk (new_apart HQ.out.lt hPX12); have D_X11_X12 := na hPX12 HX11; have RRX12 := Aside0.mk (rrn HK.out hPX12); replace HG := sn hk HG; replace HN := Aside0.mk (HN.out.step hk no_S); replace HE := Aside0.mk (HE.out.step hk no_S); replace HQ := Aside0.mk (HQ.out.step hk no_S); replace HX11 := sn hk HX11; replace HK := Aside0.mk (HK.out.then_ hk no_R); replace HB := Aside0.mk (below_step HB.out hb); clear hb hk hg hPX12; replace jG := HG.out.c5; replace jX11 := HX11.out.c6; replace jX12 := HX12.out.c3) | ((with_reducible refine gate_store (t := 101) (p := 10) rfl ?_); refine LB.storedW HX12.out HB.out GEX12.out [.int .i64 (node : Int), .int .i64 (d : Int), .int .i64 (i : Int)] rfl rfl (t := 101) (p := 10) rfl rfl ?hr_35 ?_; (case hr_35 => first | (go_simp; done) | (go_simp; simp only [World.setCells, Nat.reduceAdd, Nat.zero_add]; done)); intro w2 hx hk hb; replace HG := ss hk HG D_G_X12.out; replace HN := Aside0.mk (HN.out.step hk D_N_X12.out); replace HE := Aside0.mk (HE.out.step hk D_E_X12.out); replace HQ := Aside0.mk (HQ.out.step hk D_Q_X12.out); replace HX11 := ss hk HX11 D_X11_X12.out; replace HK := Aside0.mk (HK.out.then_ hk RRX12.out); replace HB := Aside0.mk hb; replace HX12 := Aside0.mk (show LB w2 PX12 gX12 101 #[.int .i64 (node : Int), .int .i64 (d : Int), .int .i64 (i : Int)] from hx); clear hk hx hb; replace jG := HG.out.c5; replace jX11 := HX11.out.c6; replace jX12 := HX12.out.c3))
 refine start_ (n := 11) (S := fun w' => w'.cell? ⟨gG, 3, none⟩ = some (.map (some gR)) ∧ w'.cell? ⟨gX12, 0, none⟩ = some (.int .i64 (node : Int)) ∧ w'.cell? ⟨gX12, 1, none⟩ = some (.int .i64 (d : Int)) ∧ w'.cell? ⟨gX12, 2, none⟩ = some (.int .i64 (i : Int))) (ds := []) #[false, false, false, false, false, false, false, false, false, false, false] (by kernel_rfl) rfl rfl ⟨jG.2.2.2.2.2.2.1, jX12.1, jX12.2.2.1, jX12.2.2.2.2.1⟩ (fun hHeld => ?_)
 refine with_tabW impl_onward.tab5 impl_onward.bits5 (fun HT_ HW_ => ?_)
 generalize hwd_ : World.drew w2 = wd_ at hHeld ⊢
 have hk := kept_drew hwd_
 replace HG := sn hk HG
 replace HN := Aside0.mk (HN.out.step hk no_S)
 replace HE := Aside0.mk (HE.out.step hk no_S)
 replace HQ := Aside0.mk (HQ.out.step hk no_S)
 replace HX11 := sn hk HX11
 replace HX12 := sn hk HX12
 replace HK := Aside0.mk (HK.out.then_ hk no_R)
 replace HB := Aside0.mk (below_drewd HB.out hwd_)
 clear hk hwd_
 replace jG := HG.out.c5
 replace jX11 := HX11.out.c6
 replace jX12 := HX12.out.c3
 refine pu 0 47 HT_.out rfl rfl rfl ?_
 refine pu 1 48 HT_.out rfl rfl rfl ?_
 refine pu 2 49 HT_.out rfl rfl rfl ?_
 refine tk 3 50 HT_.out HW_.out hHeld rfl rfl rfl ?_
 refine tk 4 51 HT_.out HW_.out hHeld rfl rfl rfl ?_
 rcases (HE.out).look3 node d i HKEY.out HND.out with hl_ | ⟨v_, hl_, hv_⟩
 ·
  refine on_ 5 (some 52) HT_.out rfl rfl fun K hK => ?_
  refine event_step (w1 := wd_) (v := .tuple #[.slice none 0 0, .bool false]) (by rfl) ?hr_36 ?_
  (case hr_36 => go_simp; first | done | (erw [hl_]; rfl))
  skip
  refine hK.out _ _ ⟨jG.2.2.2.2.2.2.1, jX12.1, jX12.2.2.1, jX12.2.2.2.2.1⟩ (fun hHeld => ?_)
  clear hK K
  refine norm_ (a' := ?_) ?_ ?_
  rotate_left
  ·
   show Act.put _ (some 52) _ = _
   simp only [Act.put, List.setIfInBounds_toArray, List.set_cons_zero, List.set_cons_succ, i64_w, i32_w]
   rfl
  refine pu 6 46 HT_.out rfl rfl rfl ?_
  refine pu 7 53 HT_.out rfl rfl rfl ?_
  refine pu 8 54 HT_.out rfl rfl rfl ?_
  refine pu 9 11 HT_.out rfl rfl rfl ?_
  refine pu 10 12 HT_.out rfl rfl rfl ?_
  refine done_ (done_of HT_.out (by kernel_rfl)) ?_
  by_cases hdf : d < F1
  ·
   have e1 : decide ((d : Int) < (F1 : Int)) = true := decide_eq_true (by omega)
   have e1n := decide_eq_true hdf
   have HDF := Aside0.mk hdf
   have HDD := Aside0.mk (show d = d from rfl)
   clear hdf
   obtain ⟨y, hy⟩ : ∃ y, l[0]? = some y := ⟨_, List.getElem?_eq_getElem (by have := HL1.out; omega)⟩
   obtain ⟨pk, ks2, hpk, hpn⟩ := HKID.out 0 y hy
   try dsimp only at hpk
   have HFY := Aside0.mk (HFF.out y (List.mem_of_getElem? hy) pk ks2 i)
   have HPN := Aside0.mk hpn
   have HPK := Aside0.mk hpk
   have hkq : 0 < ks.length := (List.getElem?_eq_some_iff.1 hpk).1
   have HKQ := Aside0.mk hkq
   have v1_ := eq_true (show ((0 : Nat) : Int) < (ks.length : Int) from Int.ofNat_lt.2 hkq)
   have v2_ := eq_true hkq
   have v0_ := eq_true (show (0 : Int) ≤ ((0 : Nat) : Int) from Int.natCast_nonneg _)
   clear hpk hpn hkq
   go_upto_region 27 with (first | ((with_reducible refine gate_callee (f := 50) rfl ?_); refine gl_ (some 58) rfl rfl Try.func50 #[.pointer (some ⟨gG, 0, none⟩)] rfl rfl ?_; (with_reducible refine (impl_none w _ PG gG T _ _ _ _ L HL.out HB.out HG.out HT.out).mono ?_); rintro e w2 ⟨BO, cO, PO, rfl, ho_, hb_, hk_, hn_⟩; refine ⟨_, rfl, ?_⟩; obtain ⟨gO, cq, he_, _, _, _⟩ := Kd.R_form ho_.1 (by rw [rowOf_len]; omega); injection he_ with ea_ el_ ec_; clear el_; subst ea_ ec_; have D_G_O := ap_ hn_ HG; have D_N_O := Aside0.mk (apn HN.out.lt hn_); have D_E_O := Aside0.mk (apn HE.out.lt hn_); have D_Q_O := Aside0.mk (apn HQ.out.lt hn_); have D_X11_O := ap_ hn_ HX11; have D_X12_O := ap_ hn_ HX12; replace HG := sn hk_ HG; replace HN := Aside0.mk (HN.out.step hk_ no_S); replace HE := Aside0.mk (HE.out.step hk_ no_S); replace HQ := Aside0.mk (HQ.out.step hk_ no_S); replace HX11 := sn hk_ HX11; replace HX12 := sn hk_ HX12; have RRO := Aside0.mk (rrm HK.out hn_); replace HK := Aside0.mk (HK.out.then_ hk_ no_R); replace HB := Aside0.mk hb_; have HO := Aside0.mk ho_; clear ho_ hb_ hk_ hn_; replace jG := HG.out.c5; replace jX11 := HX11.out.c6; replace jX12 := HX12.out.c3))
   obtain ⟨ad5, eA5, hk5⟩ := im_atI HQ.out 0 HKQ.out HPK.out
   rw [show ad5.add 0 = ad5 from rfl] at hk5
   go_wp2_with (first | ((with_reducible refine gate_callee (f := 38) rfl ?_); refine gl_ (some 157) rfl rfl Try.func38 #[.pointer (some ⟨gG, 0, none⟩), .int .i64 (pk : Int), .int .i64 (i : Int)] rfl rfl ?_; (with_reducible refine (HFY.out _ _ HPN.out HI.out ⟨HB.out, HG.out, HN.out, HE.out, D_G_E.out, D_N_E.out⟩).mono ?_); rintro e w2 ⟨PE13, AR, cR, rfl, ⟨hb_, hg_, hn_, he_, hge_, hne_⟩, hcl_, hF_, hm1_, hm2_, hkk_⟩; refine ⟨_, rfl, ?_⟩; dsimp only at hb_ hg_ hn_ he_ hge_ hne_ hcl_ hF_ hkk_; have D_Q_E13 := Aside0.mk (apart_app hm2_ HQ.out.lt D_Q_E.out); have D_X11_E13 := Aside0.mk (apart_app hm2_ HX11.out.lt (apart_symm D_E_X11.out)); have D_X12_E13 := Aside0.mk (apart_app hm2_ HX12.out.lt (apart_symm D_E_X12.out)); have D_O_E13 := Aside0.mk (apart_app hm2_ HO.out.lt (apart_symm D_E_O.out)); replace HQ := Aside0.mk (HQ.out.step hkk_ (imNotK D_Q_E.out HE.out.1)); replace HX11 := Aside0.mk (HX11.out.step hkk_ (imNotK (apart_symm D_E_X11.out) HE.out.1)); replace HX12 := Aside0.mk (HX12.out.step hkk_ (imNotK (apart_symm D_E_X12.out) HE.out.1)); replace HO := Aside0.mk (HO.out.step hkk_ (imNotK (apart_symm D_E_O.out) HE.out.1)); replace HM1 := Aside0.mk (fun k h => hm1_ k (HM1.out k h)); replace HM2 := Aside0.mk (show ∀ k, PE13 k → PE k ∨ ws.heap.size ≤ k from fun k h => (hm2_ k h).elim (HM2.out k) (fun h => .inr (Nat.le_trans HK.out.1 h))); have HR := Aside0.mk (imLN (base := w.heap.size) (rowOf_len' HL.out _) hcl_ hF_ (fun k h => he_.lt k h.1)); have D_R_K := Aside0.mk (show ∀ k, (PE13 k ∧ k ≠ gE ∧ k ≠ gR) → ¬ (k = gE ∨ k = gR) from fun k h1_ h2_ => h2_.elim h1_.2.1 h1_.2.2); have D_R_O := Aside0.mk (show ∀ k, (PE13 k ∧ k ≠ gE ∧ k ≠ gR) → ¬ PO k from fun k h1_ h2_ => D_O_E13.out k h2_ h1_.1); replace HK := Aside0.mk (HK.out.then_ hkk_ (fun _ h_ => .inl h_)); replace HB := Aside0.mk hb_; replace HG := Aside0.mk hg_; replace HN := Aside0.mk hn_; have HE13 := Aside0.mk he_; have D_G_E13 := Aside0.mk hge_; have D_N_E13 := Aside0.mk hne_; clear hb_ hg_ hn_ he_ hge_ hne_ hcl_ hF_ hm1_ hm2_ hkk_ HE; replace jG := HG.out.c5; replace jX11 := HX11.out.c6; replace jX12 := HX12.out.c3))
   obtain ⟨adR, eR_, _⟩ := im_atN HR.out 0 (by have := HL.out; omega)
   subst eR_
   have HY := Aside0.mk hy
   clear hy hk5
   go_loopg [159] (L + 1) (fun kq v159 w' => ∃ (e : Nat) (PE1 : Nat → Prop), v159 = .int .i64 (e : Int) ∧ Aside0 (e + kq = L + 1 ∧ 0 < kq) ∧ Aside0 (Below w.heap.size w w') ∧ Aside0 (LB w' PG gG 74 #[.string T, .slice (some adN) ns.length DN, .map (some gE), .map (some gR), VG]) ∧ Aside0 (LN kNA 76 w' w.heap.size PN (.slice (some adN) ns.length DN) ns) ∧ Aside0 (LN (Kd.int .i64) 3 w' w.heap.size PN (.slice A5 ks.length c5) ks) ∧ Aside0 (LB w' PX11 gX11 76 #[.int .i64 f0, .int .i64 (F1 : Int), .int .i64 f2, .string f3, .slice A4 l.length c4, .slice A5 ks.length c5]) ∧ Aside0 (LB w' PX12 gX12 101 #[.int .i64 (node : Int), .int .i64 (d : Int), .int .i64 (i : Int)]) ∧ Aside0 (LR Kd.bool 4 w' w.heap.size PO (.slice (some ⟨gO, 0, none⟩) L cO) (rowOf T.size (accK (fun _ => false) (fun q => mat (imTx T) T.size y i q) (onw (imTx T) T.size (⟨f0, (F1 : Int), f2, f3, l⟩ : S31) (d + 1)) e))) ∧ Aside0 (imK ⟨PG, PN, gG, gE, gR, some adN, DN, T, L, ns⟩ w' PE1) ∧ Aside0 (LN Kd.bool 4 w' w.heap.size (fun k => PE13 k ∧ k ≠ gE ∧ k ≠ gR) (.slice (some adR) L cR) (rowOf T.size (mat (imTx T) T.size y i))) ∧ Aside0 (∀ k, PG k → ¬ PE1 k) ∧ Aside0 (∀ k, PN k → ¬ PE1 k) ∧ Aside0 (∀ k, PN k → ¬ PE1 k) ∧ Aside0 (∀ k, PX11 k → ¬ PE1 k) ∧ Aside0 (∀ k, PX12 k → ¬ PE1 k) ∧ Aside0 (∀ k, PO k → ¬ PE1 k) ∧ Aside0 (Kept ws w' (fun k_ => k_ = gE ∨ k_ = gR)) ∧ Aside0 (∀ k, PE k → PE1 k) ∧ Aside0 (∀ k, PE1 k → PE k ∨ ws.heap.size ≤ k))
   case atStart => exact ⟨0, _, rfl, ⟨by omega, by omega⟩, HB, HG, HN, HQ, HX11, HX12, ⟨by rw [accK_zero]; exact HO.out⟩, HE13, HR, ⟨D_G_E13.out⟩, ⟨D_N_E13.out⟩, ⟨D_Q_E13.out⟩, ⟨D_X11_E13.out⟩, ⟨D_X12_E13.out⟩, ⟨D_O_E13.out⟩, HK, HM1, HM2⟩
   case round =>
    clear HB HK HM1 HM2 HG HN HQ HX11 HX12 HO HE13 HR
    clear D_G_E13 D_N_E13 D_Q_E13 D_X11_E13 D_X12_E13 D_O_E13
    try clear jG
    try clear jX11
    try clear jX12
    obtain ⟨e, PZ, rfl, HX, HB, HG, HN, HQ, HX11, HX12, HO, HZ, HR, D_G_Z, D_N_Z, D_Q_Z, D_X11_Z, D_X12_Z, D_O_Z, HK, HM1, HM2⟩ := hrel
    replace jG := HG.out.c5
    replace jX11 := HX11.out.c6
    replace jX12 := HX12.out.c3
    by_cases hlt : e < L
    ·
     obtain ⟨k1, rfl⟩ : ∃ k_, gk = k_ + 1 := ⟨gk - 1, by have := HX.out; omega⟩
     have HE2 := Aside0.mk (show e ≤ T.size ∧ e + 1 + k1 = L + 1 ∧ 0 < k1 from by have h1 := HX.out; have h2 := HL.out; exact ⟨by omega, by omega, by omega⟩)
     obtain ⟨_, eR_, hr0⟩ := im_atN HR.out e hlt
     cases eR_
     rw [rowOf_getD _ _ _ HE2.out.1] at hr0
     have hwe : wrap64 ((e : Int) + 1) = ((e + 1 : Nat) : Int) := by have := HE2.out; have := HT.out; unfold wrap64; omega
     have z1 := eq_true (show (0 : Int) ≤ (e : Int) from Int.natCast_nonneg _)
     have z2 := eq_true (show (e : Int) < (L : Int) from Int.ofNat_lt.2 hlt)
     have z2d := decide_eq_true (show (e : Int) < (L : Int) from Int.ofNat_lt.2 hlt)
     have z3 := eq_true hlt
     have z3d := decide_eq_true hlt
     clear hlt
     rcases hb_ : mat (imTx T) T.size y i e with _ | _
     ·
      rw [hb_] at hr0
      have HBF := Aside0.mk hb_
      clear hb_
      go_wp2
      go_roundg k1
      case measure => omega
      case rel => exact ⟨e + 1, _, by first | rfl | exact congrArg (Value.int .i64) hwe, ⟨HE2.out.2⟩, HB, HG, HN, HQ, HX11, HX12, ⟨by rw [accK_no _ _ _ _ (by simp [HBF.out])]; exact HO.out⟩, HZ, HR, ⟨D_G_Z.out⟩, ⟨D_N_Z.out⟩, ⟨D_Q_Z.out⟩, ⟨D_X11_Z.out⟩, ⟨D_X12_Z.out⟩, ⟨D_O_Z.out⟩, HK, HM1, HM2⟩
     rw [hb_] at hr0
     have HBT := Aside0.mk hb_
     clear hb_
     have HGT := Aside0.mk (show i ≤ e from ((mat_le (imTx T) T.size _).1 y (Nat.le_refl _) i e HBT.out))
     have IO := (fun (ws' : World) (PE' : Nat → Prop) h => IH.out node (d + 1) e ks ws' PE' (by have h1 := HMU.out; have h2 := HGT.out; have h3 := HE2.out; have h4 := HI.out; (try dsimp only at h1 h4); exact Nat.lt_of_lt_of_le (imMu h2 h3.1 (.inl ⟨by have h5 := HDD.out; omega, by have h5 := HDD.out; have h6 := HDF.out; have h7 := HF1.out; omega⟩)) (Nat.le_of_lt_succ h1)) ⟨fun h => absurd (h.symm.trans HK9.out) (by decide), fun _ => by have h6 := HDF.out; have h7 := HF1.out; omega⟩ HE2.out.1 HND.out h)
     try dsimp only at IO
     rw [show (((d + 1) : Nat) : Int) = (d : Int) + 1 from rfl] at IO
     replace IO := Aside0.mk IO
     have hwd : wrap64 ((d : Int) + 1) = (d : Int) + 1 := by have h6 := HDF.out; have h7 := HF1.out; unfold wrap64; omega
     have hwdk : IntKind.i64.wrap ((d : Int) + 1) = (d : Int) + 1 := (i64_w _).trans hwd
     go_wp2_with (first | ((with_reducible refine gate_callee (f := 54) rfl ?_); refine gl_ (some 171) rfl rfl Try.func54 #[.pointer (some ⟨gG, 0, none⟩), .int .i64 (node : Int), .int .i64 ((d : Int) + 1), .int .i64 (e : Int)] rfl rfl ?_; (with_reducible refine (IO.out _ _ ⟨HB.out, HG.out, HN.out, HZ.out, D_G_Z.out, D_N_Z.out⟩).mono ?_); rintro e w2 ⟨PE14, AS, cS, rfl, ⟨hb_, hg_, hn_, he_, hge_, hne_⟩, hcl_, hF_, hm1_, hm2_, hkk_⟩; refine ⟨_, rfl, ?_⟩; dsimp only at hb_ hg_ hn_ he_ hge_ hne_ hcl_ hF_ hkk_; have D_Q_E14 := Aside0.mk (apart_app hm2_ HQ.out.lt D_Q_Z.out); have D_X11_E14 := Aside0.mk (apart_app hm2_ HX11.out.lt D_X11_Z.out); have D_X12_E14 := Aside0.mk (apart_app hm2_ HX12.out.lt D_X12_Z.out); have D_O_E14 := Aside0.mk (apart_app hm2_ HO.out.lt D_O_Z.out); replace HQ := Aside0.mk (HQ.out.step hkk_ (imNotK D_Q_Z.out HZ.out.1)); replace HX11 := Aside0.mk (HX11.out.step hkk_ (imNotK D_X11_Z.out HZ.out.1)); replace HX12 := Aside0.mk (HX12.out.step hkk_ (imNotK D_X12_Z.out HZ.out.1)); replace HO := Aside0.mk (HO.out.step hkk_ (imNotK D_O_Z.out HZ.out.1)); replace HR := Aside0.mk (HR.out.step hkk_ D_R_K.out); replace HM1 := Aside0.mk (fun k h => hm1_ k (HM1.out k h)); replace HM2 := Aside0.mk (show ∀ k, PE14 k → PE k ∨ ws.heap.size ≤ k from fun k h => (hm2_ k h).elim (HM2.out k) (fun h => .inr (Nat.le_trans HK.out.1 h))); have HS := Aside0.mk (imLN (base := w.heap.size) (rowOf_len' HL.out _) hcl_ hF_ (fun k h => he_.lt k h.1)); have D_S_K := Aside0.mk (show ∀ k, (PE14 k ∧ k ≠ gE ∧ k ≠ gR) → ¬ (k = gE ∨ k = gR) from fun k h1_ h2_ => h2_.elim h1_.2.1 h1_.2.2); have D_S_O := Aside0.mk (show ∀ k, (PE14 k ∧ k ≠ gE ∧ k ≠ gR) → ¬ PO k from fun k h1_ h2_ => D_O_E14.out k h2_ h1_.1); replace HK := Aside0.mk (HK.out.then_ hkk_ (fun _ h_ => .inl h_)); replace HB := Aside0.mk hb_; replace HG := Aside0.mk hg_; replace HN := Aside0.mk hn_; have HE14 := Aside0.mk he_; have D_G_E14 := Aside0.mk hge_; have D_N_E14 := Aside0.mk hne_; clear hb_ hg_ hn_ he_ hge_ hne_ hcl_ hF_ hm1_ hm2_ hkk_ HZ; replace jG := HG.out.c5; replace jX11 := HX11.out.c6; replace jX12 := HX12.out.c3) | ((with_reducible refine gate_callee (f := 53) rfl ?_); refine gl_ (some 172) rfl rfl Try.func53 #[.slice (some ⟨gO, 0, none⟩) L cO, .slice AS L cS] rfl rfl ?_; (with_reducible refine (im_join w _ PO _ gO L cO T.size _ _ _ _ HL.out HT.out HB.out HO.out HS.out D_S_O.out).mono ?_); rintro e w2 ⟨rfl, ho_, hb_, hk_⟩; refine ⟨_, rfl, ?_⟩; replace HG := ss hk_ HG D_G_O.out; replace HN := Aside0.mk (HN.out.step hk_ D_N_O.out); replace HQ := Aside0.mk (HQ.out.step hk_ D_Q_O.out); replace HX11 := ss hk_ HX11 D_X11_O.out; replace HX12 := ss hk_ HX12 D_X12_O.out; replace HR := Aside0.mk (HR.out.step hk_ D_R_O.out); replace HE14 := Aside0.mk (HE14.out.step hk_ (apart_symm D_O_E14.out)); replace HS := Aside0.mk (HS.out.step hk_ D_S_O.out); replace HK := Aside0.mk (HK.out.then_ hk_ RRO.out); replace HB := Aside0.mk hb_; replace HO := Aside0.mk ho_; clear ho_ hb_ hk_; replace jG := HG.out.c5; replace jX11 := HX11.out.c6; replace jX12 := HX12.out.c3))
     go_roundg k1
     case measure => omega
     case rel => exact ⟨e + 1, _, by first | rfl | exact congrArg (Value.int .i64) hwe, ⟨HE2.out.2⟩, HB, HG, HN, HQ, HX11, HX12, ⟨by rw [accK_yes _ _ _ _ (by simp [HBT.out])]; exact HO.out⟩, HE14, HR, ⟨D_G_E14.out⟩, ⟨D_N_E14.out⟩, ⟨D_Q_E14.out⟩, ⟨D_X11_E14.out⟩, ⟨D_X12_E14.out⟩, ⟨D_O_E14.out⟩, HK, HM1, HM2⟩
    have hel : e = L := by have := HX.out; omega
    have z2d : decide ((e : Int) < (L : Int)) = false := decide_eq_false (by omega)
    have z3d : decide (e < L) = false := decide_eq_false hlt
    have HEL := Aside0.mk (show e = T.size + 1 from hel.trans HL.out)
    clear hel hlt
    have hrow_ : rowOf T.size (accK (fun _ => false) (fun q => mat (imTx T) T.size y i q) (onw (imTx T) T.size (⟨f0, (F1 : Int), f2, f3, l⟩ : S31) (d + 1)) e) = imOn T (⟨f0, (F1 : Int), f2, f3, l⟩ : S31) d i := by rw [HEL.out]; exact imMust (imTx T) T.size f0 (F1 : Int) f2 f3 l d i y HK9.out (by rw [Int.toNat_natCast]; exact HDF.out) HY.out
    replace HO := Aside0.mk (hrow_ ▸ HO.out)
    clear hrow_
    go_upto_region 33 with (fail)
    try dsimp only
    refine start_ (n := 7) (S := fun w' => w'.cell? ⟨gG, 3, none⟩ = some (.map (some gR)) ∧ w'.cell? ⟨gX12, 0, none⟩ = some (.int .i64 (node : Int)) ∧ w'.cell? ⟨gX12, 1, none⟩ = some (.int .i64 (d : Int)) ∧ w'.cell? ⟨gX12, 2, none⟩ = some (.int .i64 (i : Int))) (ds := [6]) #[false, false, false, false, false, false, false] (by kernel_rfl) rfl rfl ⟨jG.2.2.2.2.2.2.1, jX12.1, jX12.2.2.1, jX12.2.2.2.2.1⟩ (fun hHeld => ?_)
    refine with_tabW impl_onward.tab33 impl_onward.bits33 (fun HT_ HW_ => ?_)
    generalize hwd_ : World.drew wr = wd_ at hHeld ⊢
    have hk := kept_drew hwd_
    replace HG := sn hk HG
    replace HN := Aside0.mk (HN.out.step hk no_S)
    replace HQ := Aside0.mk (HQ.out.step hk no_S)
    replace HX11 := sn hk HX11
    replace HX12 := sn hk HX12
    replace HO := Aside0.mk (HO.out.step hk no_S)
    replace HZ := Aside0.mk (HZ.out.step hk no_S)
    replace HR := Aside0.mk (HR.out.step hk no_S)
    replace HK := Aside0.mk (HK.out.then_ hk no_R)
    replace HB := Aside0.mk (below_drewd HB.out hwd_)
    clear hk hwd_
    replace jG := HG.out.c5
    replace jX11 := HX11.out.c6
    replace jX12 := HX12.out.c3
    refine pu 0 174 HT_.out rfl rfl rfl ?_
    refine pu 1 175 HT_.out rfl rfl rfl ?_
    refine pu 2 176 HT_.out rfl rfl rfl ?_
    refine tk 3 177 HT_.out HW_.out hHeld rfl rfl rfl ?_
    refine tk 4 178 HT_.out HW_.out hHeld rfl rfl rfl ?_
    refine pu 5 179 HT_.out rfl rfl rfl ?_
    obtain ⟨w9, hput_, ⟨hst_, hkk_, hbb_⟩⟩ := (HZ.out).put3 HNE.out HL.out node d i HKEY.out HND.out HO.out D_O_Z.out
    dsimp only at hst_ hkk_ hbb_ hput_
    refine la_ 6 none HT_.out rfl rfl fun K hK => ?_
    refine skip_step (w1 := w9) (by rfl) rfl ?hr_41 ?_
    (case hr_41 => go_simp; first | done | (erw [hput_]; rfl))
    replace HG := Aside0.mk (HG.out.step hkk_ (fun k h1_ h2_ => D_G_Z.out k h1_ (h2_ ▸ HZ.out.1.2)))
    replace HN := Aside0.mk (HN.out.step hkk_ (fun k h1_ h2_ => D_N_Z.out k h1_ (h2_ ▸ HZ.out.1.2)))
    have hoF_ := Kd.F_kept (Kd.R_F HO.out.1) hkk_ (fun k h1_ h2_ => D_O_Z.out k h1_ (h2_ ▸ HZ.out.1.2))
    have hOE_ := Aside0.mk (fun k h1_ => D_O_Z.out k h1_)
    replace HK := Aside0.mk (HK.out.then_ hkk_ (fun _ h_ => .inl (.inr h_)))
    replace HB := Aside0.mk (hbb_ w HB.out HGE.out.2)
    skip
    refine hK.out _ _ ?_
    clear hK K
    refine done_ (done_of HT_.out (by kernel_rfl)) ?_
    go_wp2
    go_ret
    refine ⟨_, _, _, rfl, ⟨HB.out, HG.out, HN.out, hst_, fun k h1_ h2_ => h2_.elim (D_G_Z.out k h1_) (D_G_O.out k h1_), fun k h1_ h2_ => h2_.elim (D_N_Z.out k h1_) (D_N_O.out k h1_)⟩, ?_, Kd.F_mono (id hoF_) (fun k h_ => ⟨.inr h_, fun e_ => hOE_.out k h_ (e_ ▸ HZ.out.1.1), fun e_ => hOE_.out k h_ (e_ ▸ HZ.out.1.2)⟩), fun k h_ => .inl (HM1.out k h_), fun k h_ => h_.elim (HM2.out k) (fun h2_ => (RRO.out k h2_).elim (fun h3_ => h3_.elim (fun e_ => absurd (e_ ▸ HZ.out.1.1) (hOE_.out k h2_)) (fun e_ => absurd (e_ ▸ HZ.out.1.2) (hOE_.out k h2_))) .inr), HK.out⟩
    have := HO.out.room; rw [rowOf_len' HL.out] at this; exact this
  have e1 : decide ((d : Int) < (F1 : Int)) = false := decide_eq_false (by omega)
  have e1n : decide (d < F1) = false := decide_eq_false hdf
  have HDF := Aside0.mk hdf
  clear hdf
  by_cases hdm : (d : Int) < f2
  ·
   have e2 : decide ((d : Int) < f2) = true := decide_eq_true hdm
   have HDM := Aside0.mk hdm
   have HLE := Aside0.mk (show d ≤ 20 by have h1 := HFM.out; have h2 := CM.out; omega)
   clear hdm
   obtain ⟨y, hy⟩ : ∃ y, l[0]? = some y := ⟨_, List.getElem?_eq_getElem (by have := HL1.out; omega)⟩
   obtain ⟨pk, ks2, hpk, hpn⟩ := HKID.out 0 y hy
   try dsimp only at hpk
   have HFY := Aside0.mk (HFF.out y (List.mem_of_getElem? hy) pk ks2 i)
   have HPN := Aside0.mk hpn
   have HPK := Aside0.mk hpk
   have hkq : 0 < ks.length := (List.getElem?_eq_some_iff.1 hpk).1
   have HKQ := Aside0.mk hkq
   have v1_ := eq_true (show ((0 : Nat) : Int) < (ks.length : Int) from Int.ofNat_lt.2 hkq)
   have v2_ := eq_true hkq
   have v0_ := eq_true (show (0 : Int) ≤ ((0 : Nat) : Int) from Int.natCast_nonneg _)
   clear hpk hpn hkq
   go_upto_region 9 with (first | ((with_reducible refine gate_callee (f := 50) rfl ?_); refine gl_ (some 58) rfl rfl Try.func50 #[.pointer (some ⟨gG, 0, none⟩)] rfl rfl ?_; (with_reducible refine (impl_none w _ PG gG T _ _ _ _ L HL.out HB.out HG.out HT.out).mono ?_); rintro e w2 ⟨BO, cO, PO, rfl, ho_, hb_, hk_, hn_⟩; refine ⟨_, rfl, ?_⟩; obtain ⟨gO, cq, he_, _, _, _⟩ := Kd.R_form ho_.1 (by rw [rowOf_len]; omega); injection he_ with ea_ el_ ec_; clear el_; subst ea_ ec_; have D_G_O := ap_ hn_ HG; have D_N_O := Aside0.mk (apn HN.out.lt hn_); have D_E_O := Aside0.mk (apn HE.out.lt hn_); have D_Q_O := Aside0.mk (apn HQ.out.lt hn_); have D_X11_O := ap_ hn_ HX11; have D_X12_O := ap_ hn_ HX12; replace HG := sn hk_ HG; replace HN := Aside0.mk (HN.out.step hk_ no_S); replace HE := Aside0.mk (HE.out.step hk_ no_S); replace HQ := Aside0.mk (HQ.out.step hk_ no_S); replace HX11 := sn hk_ HX11; replace HX12 := sn hk_ HX12; have RRO := Aside0.mk (rrm HK.out hn_); replace HK := Aside0.mk (HK.out.then_ hk_ no_R); replace HB := Aside0.mk hb_; have HO := Aside0.mk ho_; clear ho_ hb_ hk_ hn_; replace jG := HG.out.c5; replace jX11 := HX11.out.c6; replace jX12 := HX12.out.c3))
   obtain ⟨hy0, hy1⟩ := im_at HO.out i (by have := HI.out; have := HL.out; omega)
   have z1 := eq_true (show (0 : Int) ≤ (i : Int) from Int.natCast_nonneg _)
   have z2 := eq_true (show (i : Int) < (L : Int) by have := HI.out; have := HL.out; omega)
   have z3 := eq_true (show i < L by have := HI.out; have := HL.out; omega)
   go_upto_region 11 with (first | ((with_reducible refine gate_store (t := 4) (p := 61) rfl ?_); refine im_put1 HO.out HB.out i (by have := HI.out; have := HL.out; omega) true rfl (t := 4) (p := 61) rfl rfl ?hr_43 ?_; (case hr_43 => first | (go_simp; done) | (go_simp; simp only [World.setCells, Nat.reduceAdd, Nat.zero_add]; done)); intro w2 hx hk hb; replace HG := ss hk HG D_G_O.out; replace HN := Aside0.mk (HN.out.step hk D_N_O.out); replace HE := Aside0.mk (HE.out.step hk D_E_O.out); replace HQ := Aside0.mk (HQ.out.step hk D_Q_O.out); replace HX11 := ss hk HX11 D_X11_O.out; replace HX12 := ss hk HX12 D_X12_O.out; replace HK := Aside0.mk (HK.out.then_ hk RRO.out); replace HB := Aside0.mk hb; rw [rowOf_set] at hx; replace HO := Aside0.mk hx; clear hk hx hb; (try clear hy0 hy1); replace jG := HG.out.c5; replace jX11 := HX11.out.c6; replace jX12 := HX12.out.c3))
   try clear z1 z2 z3
   obtain ⟨ad5, eA5, hk5⟩ := im_atI HQ.out 0 HKQ.out HPK.out
   rw [show ad5.add 0 = ad5 from rfl] at hk5
   go_wp2_with (first | ((with_reducible refine gate_callee (f := 38) rfl ?_); refine gl_ (some 79) rfl rfl Try.func38 #[.pointer (some ⟨gG, 0, none⟩), .int .i64 (pk : Int), .int .i64 (i : Int)] rfl rfl ?_; (with_reducible refine (HFY.out _ _ HPN.out HI.out ⟨HB.out, HG.out, HN.out, HE.out, D_G_E.out, D_N_E.out⟩).mono ?_); rintro e w2 ⟨PE15, AR, cR, rfl, ⟨hb_, hg_, hn_, he_, hge_, hne_⟩, hcl_, hF_, hm1_, hm2_, hkk_⟩; refine ⟨_, rfl, ?_⟩; dsimp only at hb_ hg_ hn_ he_ hge_ hne_ hcl_ hF_ hkk_; have D_Q_E15 := Aside0.mk (apart_app hm2_ HQ.out.lt D_Q_E.out); have D_X11_E15 := Aside0.mk (apart_app hm2_ HX11.out.lt (apart_symm D_E_X11.out)); have D_X12_E15 := Aside0.mk (apart_app hm2_ HX12.out.lt (apart_symm D_E_X12.out)); have D_O_E15 := Aside0.mk (apart_app hm2_ HO.out.lt (apart_symm D_E_O.out)); replace HQ := Aside0.mk (HQ.out.step hkk_ (imNotK D_Q_E.out HE.out.1)); replace HX11 := Aside0.mk (HX11.out.step hkk_ (imNotK (apart_symm D_E_X11.out) HE.out.1)); replace HX12 := Aside0.mk (HX12.out.step hkk_ (imNotK (apart_symm D_E_X12.out) HE.out.1)); replace HO := Aside0.mk (HO.out.step hkk_ (imNotK (apart_symm D_E_O.out) HE.out.1)); replace HM1 := Aside0.mk (fun k h => hm1_ k (HM1.out k h)); replace HM2 := Aside0.mk (show ∀ k, PE15 k → PE k ∨ ws.heap.size ≤ k from fun k h => (hm2_ k h).elim (HM2.out k) (fun h => .inr (Nat.le_trans HK.out.1 h))); have HR := Aside0.mk (imLN (base := w.heap.size) (rowOf_len' HL.out _) hcl_ hF_ (fun k h => he_.lt k h.1)); have D_R_K := Aside0.mk (show ∀ k, (PE15 k ∧ k ≠ gE ∧ k ≠ gR) → ¬ (k = gE ∨ k = gR) from fun k h1_ h2_ => h2_.elim h1_.2.1 h1_.2.2); have D_R_O := Aside0.mk (show ∀ k, (PE15 k ∧ k ≠ gE ∧ k ≠ gR) → ¬ PO k from fun k h1_ h2_ => D_O_E15.out k h2_ h1_.1); replace HK := Aside0.mk (HK.out.then_ hkk_ (fun _ h_ => .inl h_)); replace HB := Aside0.mk hb_; replace HG := Aside0.mk hg_; replace HN := Aside0.mk hn_; have HE15 := Aside0.mk he_; have D_G_E15 := Aside0.mk hge_; have D_N_E15 := Aside0.mk hne_; clear hb_ hg_ hn_ he_ hge_ hne_ hcl_ hF_ hm1_ hm2_ hkk_ HE; replace jG := HG.out.c5; replace jX11 := HX11.out.c6; replace jX12 := HX12.out.c3))
   obtain ⟨adR, eR_, _⟩ := im_atN HR.out 0 (by have := HL.out; omega)
   subst eR_
   have HY := Aside0.mk hy
   clear hy hk5
   go_loopg [81] (L + 1) (fun kq v81 w' => ∃ (e : Nat) (PE1 : Nat → Prop), v81 = .int .i64 (e : Int) ∧ Aside0 (e + kq = L + 1 ∧ 0 < kq) ∧ Aside0 (Below w.heap.size w w') ∧ Aside0 (LB w' PG gG 74 #[.string T, .slice (some adN) ns.length DN, .map (some gE), .map (some gR), VG]) ∧ Aside0 (LN kNA 76 w' w.heap.size PN (.slice (some adN) ns.length DN) ns) ∧ Aside0 (LN (Kd.int .i64) 3 w' w.heap.size PN (.slice A5 ks.length c5) ks) ∧ Aside0 (LB w' PX11 gX11 76 #[.int .i64 f0, .int .i64 (F1 : Int), .int .i64 f2, .string f3, .slice A4 l.length c4, .slice A5 ks.length c5]) ∧ Aside0 (LB w' PX12 gX12 101 #[.int .i64 (node : Int), .int .i64 (d : Int), .int .i64 (i : Int)]) ∧ Aside0 (LR Kd.bool 4 w' w.heap.size PO (.slice (some ⟨gO, 0, none⟩) L cO) (rowOf T.size (accK (fun j => if j = i then true else false) (fun q => mat (imTx T) T.size y i q && decide (i < q)) (onw (imTx T) T.size (⟨f0, (F1 : Int), f2, f3, l⟩ : S31) (d + 1)) e))) ∧ Aside0 (imK ⟨PG, PN, gG, gE, gR, some adN, DN, T, L, ns⟩ w' PE1) ∧ Aside0 (LN Kd.bool 4 w' w.heap.size (fun k => PE15 k ∧ k ≠ gE ∧ k ≠ gR) (.slice (some adR) L cR) (rowOf T.size (mat (imTx T) T.size y i))) ∧ Aside0 (∀ k, PG k → ¬ PE1 k) ∧ Aside0 (∀ k, PN k → ¬ PE1 k) ∧ Aside0 (∀ k, PN k → ¬ PE1 k) ∧ Aside0 (∀ k, PX11 k → ¬ PE1 k) ∧ Aside0 (∀ k, PX12 k → ¬ PE1 k) ∧ Aside0 (∀ k, PO k → ¬ PE1 k) ∧ Aside0 (Kept ws w' (fun k_ => k_ = gE ∨ k_ = gR)) ∧ Aside0 (∀ k, PE k → PE1 k) ∧ Aside0 (∀ k, PE1 k → PE k ∨ ws.heap.size ≤ k))
   case atStart => exact ⟨0, _, rfl, ⟨by omega, by omega⟩, HB, HG, HN, HQ, HX11, HX12, ⟨by rw [accK_zero]; exact HO.out⟩, HE15, HR, ⟨D_G_E15.out⟩, ⟨D_N_E15.out⟩, ⟨D_Q_E15.out⟩, ⟨D_X11_E15.out⟩, ⟨D_X12_E15.out⟩, ⟨D_O_E15.out⟩, HK, HM1, HM2⟩
   case round =>
    clear HB HK HM1 HM2 HG HN HQ HX11 HX12 HO HE15 HR
    clear D_G_E15 D_N_E15 D_Q_E15 D_X11_E15 D_X12_E15 D_O_E15
    try clear jG
    try clear jX11
    try clear jX12
    obtain ⟨e, PZ, rfl, HX, HB, HG, HN, HQ, HX11, HX12, HO, HZ, HR, D_G_Z, D_N_Z, D_Q_Z, D_X11_Z, D_X12_Z, D_O_Z, HK, HM1, HM2⟩ := hrel
    replace jG := HG.out.c5
    replace jX11 := HX11.out.c6
    replace jX12 := HX12.out.c3
    by_cases hlt : e < L
    ·
     obtain ⟨k1, rfl⟩ : ∃ k_, gk = k_ + 1 := ⟨gk - 1, by have := HX.out; omega⟩
     have HE2 := Aside0.mk (show e ≤ T.size ∧ e + 1 + k1 = L + 1 ∧ 0 < k1 from by have h1 := HX.out; have h2 := HL.out; exact ⟨by omega, by omega, by omega⟩)
     obtain ⟨_, eR_, hr0⟩ := im_atN HR.out e hlt
     cases eR_
     rw [rowOf_getD _ _ _ HE2.out.1] at hr0
     have hwe : wrap64 ((e : Int) + 1) = ((e + 1 : Nat) : Int) := by have := HE2.out; have := HT.out; unfold wrap64; omega
     have z1 := eq_true (show (0 : Int) ≤ (e : Int) from Int.natCast_nonneg _)
     have z2 := eq_true (show (e : Int) < (L : Int) from Int.ofNat_lt.2 hlt)
     have z2d := decide_eq_true (show (e : Int) < (L : Int) from Int.ofNat_lt.2 hlt)
     have z3 := eq_true hlt
     have z3d := decide_eq_true hlt
     clear hlt
     rcases hb_ : mat (imTx T) T.size y i e with _ | _
     ·
      rw [hb_] at hr0
      have HBF := Aside0.mk hb_
      clear hb_
      go_wp2
      go_roundg k1
      case measure => omega
      case rel => exact ⟨e + 1, _, by first | rfl | exact congrArg (Value.int .i64) hwe, ⟨HE2.out.2⟩, HB, HG, HN, HQ, HX11, HX12, ⟨by rw [accK_no _ _ _ _ (by simp [HBF.out])]; exact HO.out⟩, HZ, HR, ⟨D_G_Z.out⟩, ⟨D_N_Z.out⟩, ⟨D_Q_Z.out⟩, ⟨D_X11_Z.out⟩, ⟨D_X12_Z.out⟩, ⟨D_O_Z.out⟩, HK, HM1, HM2⟩
     rw [hb_] at hr0
     have HBT := Aside0.mk hb_
     clear hb_
     by_cases hgt : i < e
     ·
      have g1 : decide ((i : Int) < (e : Int)) = true := decide_eq_true (Int.ofNat_lt.2 hgt)
      have g2 := decide_eq_true hgt
      have HGT := Aside0.mk hgt
      clear hgt
      have IO := (fun (ws' : World) (PE' : Nat → Prop) h => IH.out node (d + 1) e ks ws' PE' (by have h1 := HMU.out; have h2 := HGT.out; have h3 := HE2.out; have h4 := HI.out; (try dsimp only at h1 h4); exact Nat.lt_of_lt_of_le (imMu (Nat.le_of_lt h2) h3.1 (.inr ⟨h2, by have h6 := HLE.out; omega⟩)) (Nat.le_of_lt_succ h1)) ⟨fun h => absurd (h.symm.trans HK9.out) (by decide), fun _ => by have h6 := HLE.out; omega⟩ HE2.out.1 HND.out h)
      try dsimp only at IO
      rw [show (((d + 1) : Nat) : Int) = (d : Int) + 1 from rfl] at IO
      replace IO := Aside0.mk IO
      have hwd : wrap64 ((d : Int) + 1) = (d : Int) + 1 := by have h6 := HLE.out; unfold wrap64; omega
      have hwdk : IntKind.i64.wrap ((d : Int) + 1) = (d : Int) + 1 := (i64_w _).trans hwd
      go_wp2_with (first | ((with_reducible refine gate_callee (f := 54) rfl ?_); refine gl_ (some 98) rfl rfl Try.func54 #[.pointer (some ⟨gG, 0, none⟩), .int .i64 (node : Int), .int .i64 ((d : Int) + 1), .int .i64 (e : Int)] rfl rfl ?_; (with_reducible refine (IO.out _ _ ⟨HB.out, HG.out, HN.out, HZ.out, D_G_Z.out, D_N_Z.out⟩).mono ?_); rintro e w2 ⟨PE16, AS, cS, rfl, ⟨hb_, hg_, hn_, he_, hge_, hne_⟩, hcl_, hF_, hm1_, hm2_, hkk_⟩; refine ⟨_, rfl, ?_⟩; dsimp only at hb_ hg_ hn_ he_ hge_ hne_ hcl_ hF_ hkk_; have D_Q_E16 := Aside0.mk (apart_app hm2_ HQ.out.lt D_Q_Z.out); have D_X11_E16 := Aside0.mk (apart_app hm2_ HX11.out.lt D_X11_Z.out); have D_X12_E16 := Aside0.mk (apart_app hm2_ HX12.out.lt D_X12_Z.out); have D_O_E16 := Aside0.mk (apart_app hm2_ HO.out.lt D_O_Z.out); replace HQ := Aside0.mk (HQ.out.step hkk_ (imNotK D_Q_Z.out HZ.out.1)); replace HX11 := Aside0.mk (HX11.out.step hkk_ (imNotK D_X11_Z.out HZ.out.1)); replace HX12 := Aside0.mk (HX12.out.step hkk_ (imNotK D_X12_Z.out HZ.out.1)); replace HO := Aside0.mk (HO.out.step hkk_ (imNotK D_O_Z.out HZ.out.1)); replace HR := Aside0.mk (HR.out.step hkk_ D_R_K.out); replace HM1 := Aside0.mk (fun k h => hm1_ k (HM1.out k h)); replace HM2 := Aside0.mk (show ∀ k, PE16 k → PE k ∨ ws.heap.size ≤ k from fun k h => (hm2_ k h).elim (HM2.out k) (fun h => .inr (Nat.le_trans HK.out.1 h))); have HS := Aside0.mk (imLN (base := w.heap.size) (rowOf_len' HL.out _) hcl_ hF_ (fun k h => he_.lt k h.1)); have D_S_K := Aside0.mk (show ∀ k, (PE16 k ∧ k ≠ gE ∧ k ≠ gR) → ¬ (k = gE ∨ k = gR) from fun k h1_ h2_ => h2_.elim h1_.2.1 h1_.2.2); have D_S_O := Aside0.mk (show ∀ k, (PE16 k ∧ k ≠ gE ∧ k ≠ gR) → ¬ PO k from fun k h1_ h2_ => D_O_E16.out k h2_ h1_.1); replace HK := Aside0.mk (HK.out.then_ hkk_ (fun _ h_ => .inl h_)); replace HB := Aside0.mk hb_; replace HG := Aside0.mk hg_; replace HN := Aside0.mk hn_; have HE16 := Aside0.mk he_; have D_G_E16 := Aside0.mk hge_; have D_N_E16 := Aside0.mk hne_; clear hb_ hg_ hn_ he_ hge_ hne_ hcl_ hF_ hm1_ hm2_ hkk_ HZ; replace jG := HG.out.c5; replace jX11 := HX11.out.c6; replace jX12 := HX12.out.c3) | ((with_reducible refine gate_callee (f := 53) rfl ?_); refine gl_ (some 99) rfl rfl Try.func53 #[.slice (some ⟨gO, 0, none⟩) L cO, .slice AS L cS] rfl rfl ?_; (with_reducible refine (im_join w _ PO _ gO L cO T.size _ _ _ _ HL.out HT.out HB.out HO.out HS.out D_S_O.out).mono ?_); rintro e w2 ⟨rfl, ho_, hb_, hk_⟩; refine ⟨_, rfl, ?_⟩; replace HG := ss hk_ HG D_G_O.out; replace HN := Aside0.mk (HN.out.step hk_ D_N_O.out); replace HQ := Aside0.mk (HQ.out.step hk_ D_Q_O.out); replace HX11 := ss hk_ HX11 D_X11_O.out; replace HX12 := ss hk_ HX12 D_X12_O.out; replace HR := Aside0.mk (HR.out.step hk_ D_R_O.out); replace HE16 := Aside0.mk (HE16.out.step hk_ (apart_symm D_O_E16.out)); replace HS := Aside0.mk (HS.out.step hk_ D_S_O.out); replace HK := Aside0.mk (HK.out.then_ hk_ RRO.out); replace HB := Aside0.mk hb_; replace HO := Aside0.mk ho_; clear ho_ hb_ hk_; replace jG := HG.out.c5; replace jX11 := HX11.out.c6; replace jX12 := HX12.out.c3))
      go_roundg k1
      case measure => omega
      case rel => exact ⟨e + 1, _, by first | rfl | exact congrArg (Value.int .i64) hwe, ⟨HE2.out.2⟩, HB, HG, HN, HQ, HX11, HX12, ⟨by rw [accK_yes _ _ _ _ (by simp [HBT.out, HGT.out])]; exact HO.out⟩, HE16, HR, ⟨D_G_E16.out⟩, ⟨D_N_E16.out⟩, ⟨D_Q_E16.out⟩, ⟨D_X11_E16.out⟩, ⟨D_X12_E16.out⟩, ⟨D_O_E16.out⟩, HK, HM1, HM2⟩
     have g1 : decide ((i : Int) < (e : Int)) = false := decide_eq_false (by omega)
     have g2 : decide (i < e) = false := decide_eq_false hgt
     have HGT := Aside0.mk hgt
     clear hgt
     go_wp2
     go_roundg k1
     case measure => omega
     case rel => exact ⟨e + 1, _, by first | rfl | exact congrArg (Value.int .i64) hwe, ⟨HE2.out.2⟩, HB, HG, HN, HQ, HX11, HX12, ⟨by rw [accK_no _ _ _ _ (by simp [HGT.out])]; exact HO.out⟩, HZ, HR, ⟨D_G_Z.out⟩, ⟨D_N_Z.out⟩, ⟨D_Q_Z.out⟩, ⟨D_X11_Z.out⟩, ⟨D_X12_Z.out⟩, ⟨D_O_Z.out⟩, HK, HM1, HM2⟩
    have hel : e = L := by have := HX.out; omega
    have z2d : decide ((e : Int) < (L : Int)) = false := decide_eq_false (by omega)
    have z3d : decide (e < L) = false := decide_eq_false hlt
    have HEL := Aside0.mk (show e = T.size + 1 from hel.trans HL.out)
    clear hel hlt
    have hrow_ : rowOf T.size (accK (fun j => if j = i then true else false) (fun q => mat (imTx T) T.size y i q && decide (i < q)) (onw (imTx T) T.size (⟨f0, (F1 : Int), f2, f3, l⟩ : S31) (d + 1)) e) = imOn T (⟨f0, (F1 : Int), f2, f3, l⟩ : S31) d i := by rw [HEL.out]; exact imMore (imTx T) T.size f0 (F1 : Int) f2 f3 l d i y HK9.out (by rw [Int.toNat_natCast]; exact HDF.out) (.inr HDM.out) HY.out
    replace HO := Aside0.mk (hrow_ ▸ HO.out)
    clear hrow_
    go_upto_region 33 with (fail)
    try dsimp only
    refine start_ (n := 7) (S := fun w' => w'.cell? ⟨gG, 3, none⟩ = some (.map (some gR)) ∧ w'.cell? ⟨gX12, 0, none⟩ = some (.int .i64 (node : Int)) ∧ w'.cell? ⟨gX12, 1, none⟩ = some (.int .i64 (d : Int)) ∧ w'.cell? ⟨gX12, 2, none⟩ = some (.int .i64 (i : Int))) (ds := [6]) #[false, false, false, false, false, false, false] (by kernel_rfl) rfl rfl ⟨jG.2.2.2.2.2.2.1, jX12.1, jX12.2.2.1, jX12.2.2.2.2.1⟩ (fun hHeld => ?_)
    refine with_tabW impl_onward.tab33 impl_onward.bits33 (fun HT_ HW_ => ?_)
    generalize hwd_ : World.drew wr = wd_ at hHeld ⊢
    have hk := kept_drew hwd_
    replace HG := sn hk HG
    replace HN := Aside0.mk (HN.out.step hk no_S)
    replace HQ := Aside0.mk (HQ.out.step hk no_S)
    replace HX11 := sn hk HX11
    replace HX12 := sn hk HX12
    replace HO := Aside0.mk (HO.out.step hk no_S)
    replace HZ := Aside0.mk (HZ.out.step hk no_S)
    replace HR := Aside0.mk (HR.out.step hk no_S)
    replace HK := Aside0.mk (HK.out.then_ hk no_R)
    replace HB := Aside0.mk (below_drewd HB.out hwd_)
    clear hk hwd_
    replace jG := HG.out.c5
    replace jX11 := HX11.out.c6
    replace jX12 := HX12.out.c3
    refine pu 0 174 HT_.out rfl rfl rfl ?_
    refine pu 1 175 HT_.out rfl rfl rfl ?_
    refine pu 2 176 HT_.out rfl rfl rfl ?_
    refine tk 3 177 HT_.out HW_.out hHeld rfl rfl rfl ?_
    refine tk 4 178 HT_.out HW_.out hHeld rfl rfl rfl ?_
    refine pu 5 179 HT_.out rfl rfl rfl ?_
    obtain ⟨w9, hput_, ⟨hst_, hkk_, hbb_⟩⟩ := (HZ.out).put3 HNE.out HL.out node d i HKEY.out HND.out HO.out D_O_Z.out
    dsimp only at hst_ hkk_ hbb_ hput_
    refine la_ 6 none HT_.out rfl rfl fun K hK => ?_
    refine skip_step (w1 := w9) (by rfl) rfl ?hr_47 ?_
    (case hr_47 => go_simp; first | done | (erw [hput_]; rfl))
    replace HG := Aside0.mk (HG.out.step hkk_ (fun k h1_ h2_ => D_G_Z.out k h1_ (h2_ ▸ HZ.out.1.2)))
    replace HN := Aside0.mk (HN.out.step hkk_ (fun k h1_ h2_ => D_N_Z.out k h1_ (h2_ ▸ HZ.out.1.2)))
    have hoF_ := Kd.F_kept (Kd.R_F HO.out.1) hkk_ (fun k h1_ h2_ => D_O_Z.out k h1_ (h2_ ▸ HZ.out.1.2))
    have hOE_ := Aside0.mk (fun k h1_ => D_O_Z.out k h1_)
    replace HK := Aside0.mk (HK.out.then_ hkk_ (fun _ h_ => .inl (.inr h_)))
    replace HB := Aside0.mk (hbb_ w HB.out HGE.out.2)
    skip
    refine hK.out _ _ ?_
    clear hK K
    refine done_ (done_of HT_.out (by kernel_rfl)) ?_
    go_wp2
    go_ret
    refine ⟨_, _, _, rfl, ⟨HB.out, HG.out, HN.out, hst_, fun k h1_ h2_ => h2_.elim (D_G_Z.out k h1_) (D_G_O.out k h1_), fun k h1_ h2_ => h2_.elim (D_N_Z.out k h1_) (D_N_O.out k h1_)⟩, ?_, Kd.F_mono (id hoF_) (fun k h_ => ⟨.inr h_, fun e_ => hOE_.out k h_ (e_ ▸ HZ.out.1.1), fun e_ => hOE_.out k h_ (e_ ▸ HZ.out.1.2)⟩), fun k h_ => .inl (HM1.out k h_), fun k h_ => h_.elim (HM2.out k) (fun h2_ => (RRO.out k h2_).elim (fun h3_ => h3_.elim (fun e_ => absurd (e_ ▸ HZ.out.1.1) (hOE_.out k h2_)) (fun e_ => absurd (e_ ▸ HZ.out.1.2) (hOE_.out k h2_))) .inr), HK.out⟩
    have := HO.out.room; rw [rowOf_len' HL.out] at this; exact this
  have e2 : decide ((d : Int) < f2) = false := decide_eq_false hdm
  have HDM := Aside0.mk hdm
  clear hdm
  go_upto_region 9 with (first | ((with_reducible refine gate_callee (f := 50) rfl ?_); refine gl_ (some 58) rfl rfl Try.func50 #[.pointer (some ⟨gG, 0, none⟩)] rfl rfl ?_; (with_reducible refine (impl_none w _ PG gG T _ _ _ _ L HL.out HB.out HG.out HT.out).mono ?_); rintro e w2 ⟨BO, cO, PO, rfl, ho_, hb_, hk_, hn_⟩; refine ⟨_, rfl, ?_⟩; obtain ⟨gO, cq, he_, _, _, _⟩ := Kd.R_form ho_.1 (by rw [rowOf_len]; omega); injection he_ with ea_ el_ ec_; clear el_; subst ea_ ec_; have D_G_O := ap_ hn_ HG; have D_N_O := Aside0.mk (apn HN.out.lt hn_); have D_E_O := Aside0.mk (apn HE.out.lt hn_); have D_Q_O := Aside0.mk (apn HQ.out.lt hn_); have D_X11_O := ap_ hn_ HX11; have D_X12_O := ap_ hn_ HX12; replace HG := sn hk_ HG; replace HN := Aside0.mk (HN.out.step hk_ no_S); replace HE := Aside0.mk (HE.out.step hk_ no_S); replace HQ := Aside0.mk (HQ.out.step hk_ no_S); replace HX11 := sn hk_ HX11; replace HX12 := sn hk_ HX12; have RRO := Aside0.mk (rrm HK.out hn_); replace HK := Aside0.mk (HK.out.then_ hk_ no_R); replace HB := Aside0.mk hb_; have HO := Aside0.mk ho_; clear ho_ hb_ hk_ hn_; replace jG := HG.out.c5; replace jX11 := HX11.out.c6; replace jX12 := HX12.out.c3))
  obtain ⟨hy0, hy1⟩ := im_at HO.out i (by have := HI.out; have := HL.out; omega)
  have z1 := eq_true (show (0 : Int) ≤ (i : Int) from Int.natCast_nonneg _)
  have z2 := eq_true (show (i : Int) < (L : Int) by have := HI.out; have := HL.out; omega)
  have z3 := eq_true (show i < L by have := HI.out; have := HL.out; omega)
  go_upto_region 33 with (first | ((with_reducible refine gate_store (t := 4) (p := 61) rfl ?_); refine im_put1 HO.out HB.out i (by have := HI.out; have := HL.out; omega) true rfl (t := 4) (p := 61) rfl rfl ?hr_49 ?_; (case hr_49 => first | (go_simp; done) | (go_simp; simp only [World.setCells, Nat.reduceAdd, Nat.zero_add]; done)); intro w2 hx hk hb; replace HG := ss hk HG D_G_O.out; replace HN := Aside0.mk (HN.out.step hk D_N_O.out); replace HE := Aside0.mk (HE.out.step hk D_E_O.out); replace HQ := Aside0.mk (HQ.out.step hk D_Q_O.out); replace HX11 := ss hk HX11 D_X11_O.out; replace HX12 := ss hk HX12 D_X12_O.out; replace HK := Aside0.mk (HK.out.then_ hk RRO.out); replace HB := Aside0.mk hb; rw [rowOf_set] at hx; replace HO := Aside0.mk hx; clear hk hx hb; (try clear hy0 hy1); replace jG := HG.out.c5; replace jX11 := HX11.out.c6; replace jX12 := HX12.out.c3))
  have hrow_ : rowOf T.size (fun j => if j = i then true else false) = imOn T (⟨f0, (F1 : Int), f2, f3, l⟩ : S31) d i := imStop (imTx T) T.size f0 (F1 : Int) f2 f3 l d i HK9.out (by rw [Int.toNat_natCast]; exact HDF.out) CM.out HDM.out
  replace HO := Aside0.mk (hrow_ ▸ HO.out)
  clear hrow_
  go_upto_region 33 with (fail)
  try dsimp only
  refine start_ (n := 7) (S := fun w' => w'.cell? ⟨gG, 3, none⟩ = some (.map (some gR)) ∧ w'.cell? ⟨gX12, 0, none⟩ = some (.int .i64 (node : Int)) ∧ w'.cell? ⟨gX12, 1, none⟩ = some (.int .i64 (d : Int)) ∧ w'.cell? ⟨gX12, 2, none⟩ = some (.int .i64 (i : Int))) (ds := [6]) #[false, false, false, false, false, false, false] (by kernel_rfl) rfl rfl ⟨jG.2.2.2.2.2.2.1, jX12.1, jX12.2.2.1, jX12.2.2.2.2.1⟩ (fun hHeld => ?_)
  refine with_tabW impl_onward.tab33 impl_onward.bits33 (fun HT_ HW_ => ?_)
  generalize hwd_ : World.drew w2 = wd_ at hHeld ⊢
  have hk := kept_drew hwd_
  replace HG := sn hk HG
  replace HN := Aside0.mk (HN.out.step hk no_S)
  replace HE := Aside0.mk (HE.out.step hk no_S)
  replace HQ := Aside0.mk (HQ.out.step hk no_S)
  replace HX11 := sn hk HX11
  replace HX12 := sn hk HX12
  replace HO := Aside0.mk (HO.out.step hk no_S)
  replace HK := Aside0.mk (HK.out.then_ hk no_R)
  replace HB := Aside0.mk (below_drewd HB.out hwd_)
  clear hk hwd_
  replace jG := HG.out.c5
  replace jX11 := HX11.out.c6
  replace jX12 := HX12.out.c3
  refine pu 0 174 HT_.out rfl rfl rfl ?_
  refine pu 1 175 HT_.out rfl rfl rfl ?_
  refine pu 2 176 HT_.out rfl rfl rfl ?_
  refine tk 3 177 HT_.out HW_.out hHeld rfl rfl rfl ?_
  refine tk 4 178 HT_.out HW_.out hHeld rfl rfl rfl ?_
  refine pu 5 179 HT_.out rfl rfl rfl ?_
  obtain ⟨w9, hput_, ⟨hst_, hkk_, hbb_⟩⟩ := (HE.out).put3 HNE.out HL.out node d i HKEY.out HND.out HO.out (apart_symm D_E_O.out)
  dsimp only at hst_ hkk_ hbb_ hput_
  refine la_ 6 none HT_.out rfl rfl fun K hK => ?_
  refine skip_step (w1 := w9) (by rfl) rfl ?hr_50 ?_
  (case hr_50 => go_simp; first | done | (erw [hput_]; rfl))
  replace HG := Aside0.mk (HG.out.step hkk_ (fun k h1_ h2_ => D_G_E.out k h1_ (h2_ ▸ HE.out.1.2)))
  replace HN := Aside0.mk (HN.out.step hkk_ (fun k h1_ h2_ => D_N_E.out k h1_ (h2_ ▸ HE.out.1.2)))
  have hoF_ := Kd.F_kept (Kd.R_F HO.out.1) hkk_ (fun k h1_ h2_ => (apart_symm D_E_O.out) k h1_ (h2_ ▸ HE.out.1.2))
  have hOE_ := Aside0.mk (fun k h1_ => (apart_symm D_E_O.out) k h1_)
  replace HK := Aside0.mk (HK.out.then_ hkk_ (fun _ h_ => .inl (.inr h_)))
  replace HB := Aside0.mk (hbb_ w HB.out HGE.out.2)
  skip
  refine hK.out _ _ ?_
  clear hK K
  refine done_ (done_of HT_.out (by kernel_rfl)) ?_
  go_wp2
  go_ret
  refine ⟨_, _, _, rfl, ⟨HB.out, HG.out, HN.out, hst_, fun k h1_ h2_ => h2_.elim (D_G_E.out k h1_) (D_G_O.out k h1_), fun k h1_ h2_ => h2_.elim (D_N_E.out k h1_) (D_N_O.out k h1_)⟩, ?_, Kd.F_mono (id hoF_) (fun k h_ => ⟨.inr h_, fun e_ => hOE_.out k h_ (e_ ▸ HE.out.1.1), fun e_ => hOE_.out k h_ (e_ ▸ HE.out.1.2)⟩), fun k h_ => .inl (HM1.out k h_), fun k h_ => h_.elim (HM2.out k) (fun h2_ => (RRO.out k h2_).elim (fun h3_ => h3_.elim (fun e_ => absurd (e_ ▸ HE.out.1.1) (hOE_.out k h2_)) (fun e_ => absurd (e_ ▸ HE.out.1.2) (hOE_.out k h2_))) .inr), HK.out⟩
  have := HO.out.room; rw [rowOf_len' HL.out] at this; exact this
 refine on_ 5 (some 52) HT_.out rfl rfl fun K hK => ?_
 refine event_step (w1 := wd_) (v := .tuple #[v_, .bool true]) (by rfl) ?hr_51 ?_
 (case hr_51 => go_simp; first | done | (erw [hl_]; rfl))
 skip
 refine hK.out _ _ ⟨jG.2.2.2.2.2.2.1, jX12.1, jX12.2.2.1, jX12.2.2.2.2.1⟩ (fun hHeld => ?_)
 clear hK K
 refine norm_ (a' := ?_) ?_ ?_
 rotate_left
 ·
  show Act.put _ (some 52) _ = _
  simp only [Act.put, List.setIfInBounds_toArray, List.set_cons_zero, List.set_cons_succ, i64_w, i32_w]
  rfl
 refine pu 6 46 HT_.out rfl rfl rfl ?_
 refine pu 7 53 HT_.out rfl rfl rfl ?_
 refine pu 8 54 HT_.out rfl rfl rfl ?_
 refine pu 9 11 HT_.out rfl rfl rfl ?_
 refine pu 10 12 HT_.out rfl rfl rfl ?_
 refine done_ (done_of HT_.out (by kernel_rfl)) ?_
 obtain ⟨A_, c_, rfl, hlc_, hF_⟩ := hv_
 dsimp only at hlc_ hF_
 go_wp2
 go_ret
 exact ⟨PE, A_, c_, rfl, ⟨HB.out, HG.out, HN.out, HE.out, D_G_E.out, D_N_E.out⟩, hlc_, id hF_, HM1.out, HM2.out, HK.out⟩
end
end Go.Proofs.Ytlpabbcgichaoaa.PFnExactFind
