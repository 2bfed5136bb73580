/- The program's matcher: onward. -/
import Derived.Test.YtlpabbcgichaoaaImAFnExactFind
import Derived.Test.YtlpabbcgichaoaaWWords
namespace Go.Proofs.Ytlpabbcgichaoaa.PFnExactFind
open Go.RowKit Go.Proofs.Ytlpabbcgichaoaa.Lawful Go.Proofs.YtlpabbcgichaoaaW.PrintWords Go.Proofs.YtlpabbcgichaoaaW.PrintLast Go.Proofs.YtlpabbcgichaoaaW.PrintMore
attribute [local go_sem] max2_int min2_int max_two min_two max_three min_three max_four min_four
set_option maxHeartbeats 16000000
set_option maxRecDepth 100000
set_option linter.unusedVariables false
set_option linter.unusedSimpArgs false
theorem rmP0 {p : Prop} (h : p := by exact ⟨_, HB, HG, HN, HE, HQ, HX1, HX2, HO, ⟨D_G_E.out⟩, ⟨D_N_E.out⟩, ⟨D_Q_E.out⟩, ⟨(apart_symm D_E_X1.out)⟩, ⟨(apart_symm D_E_X2.out)⟩, ⟨(apart_symm D_E_O.out)⟩, HK, HM1, HM2⟩) : p := h
theorem rmP1 {p : Prop} (h : p := by exact ⟨e + 1, _, by first | rfl | exact congrArg (Value.int .i64) hwe, ⟨HE2.out.2⟩, HB, HG, HN, HQ, HX1, HX2, ⟨by rw [accK_no _ _ _ _ (by simp [HBF.out])]; exact HO.out⟩, HZ, HR, ⟨D_G_Z.out⟩, ⟨D_N_Z.out⟩, ⟨D_Q_Z.out⟩, ⟨D_X1_Z.out⟩, ⟨D_X2_Z.out⟩, ⟨D_O_Z.out⟩, HK, HM1, HM2⟩) : p := h
theorem rmP2 {p : Prop} (h : p := by exact ⟨_, HB, HG, HN, HZ, HQ, HX1, HX2, HO, ⟨D_G_Z.out⟩, ⟨D_N_Z.out⟩, ⟨D_Q_Z.out⟩, ⟨D_X1_Z.out⟩, ⟨D_X2_Z.out⟩, ⟨D_O_Z.out⟩, HK, HM1, HM2⟩) : p := h
theorem rmP3 {p : Prop} (h : p := by exact ⟨e + 1, _, by first | rfl | exact congrArg (Value.int .i64) hwe, ⟨HE2.out.2⟩, HB, HG, HN, HQ, HX1, HX2, ⟨by rw [accK_no _ _ _ _ (by simp [HGT.out])]; exact HO.out⟩, HZ, HR, ⟨D_G_Z.out⟩, ⟨D_N_Z.out⟩, ⟨D_Q_Z.out⟩, ⟨D_X1_Z.out⟩, ⟨D_X2_Z.out⟩, ⟨D_O_Z.out⟩, HK, HM1, HM2⟩) : p := h
section
open Go.Proofs.Ytlpabbcgichaoaa.Lawful
def impl_onward.T5 : Bool × List (List Nat × List Nat) := (true, [([], []), ([0], [0]), ([1], [1]), ([2], [2]), ([], []), ([3, 4], [3, 4]), ([5], [5]), ([6], [6]), ([6], [6]), ([7, 0, 1, 2, 3, 4, 5, 6, 7], [7]), ([8, 9, 0, 1, 2, 3, 4, 5, 6, 7, 8, 9], [8])])
def impl_onward.B5 : List Nat := [0, 1, 3, 7, 0, 31, 63, 127, 127, 255, 1023]
theorem impl_onward.tab5 : rtab .any (opsOf Try.f54 5) = impl_onward.T5 := by kernel_rfl
theorem impl_onward.bits5 : waitsOk impl_onward.T5.2 impl_onward.B5 = true := by kernel_rfl
def impl_onward.T33 : Bool × List (List Nat × List Nat) := (true, [([], []), ([0], [0]), ([1], [1]), ([2], [2]), ([], []), ([], []), ([3, 4, 5, 0, 1, 2, 3, 4, 5], [3, 4, 5])])
def impl_onward.B33 : List Nat := [0, 1, 3, 7, 0, 0, 63]
theorem impl_onward.tab33 : rtab .any (opsOf Try.f54 33) = impl_onward.T33 := by kernel_rfl
theorem impl_onward.bits33 : waitsOk impl_onward.T33.2 impl_onward.B33 = true := by kernel_rfl
theorem impl_onward (E : imE) (w : World) (VG : Value) (hok : E.Ok w) (x : S31) (hkind : x.f0 = 7 ∨ x.f0 = 9) (hF : ∀ y ∈ x.f4, E.From w VG y) : ∀ (m node d i : Nat) (ks : List Int) (ws : World) (PE : Nat → Prop), (E.T.size - i) * (x.f4.length + 22) + (x.f4.length + 21 - d) < m → ((x.f0 = 7 → d ≤ x.f4.length) ∧ (x.f0 = 9 → d ≤ 21 ∨ x.f2 < 0)) → i ≤ E.T.size → E.ns[node]? = some (x, ks) → E.At w ws PE VG →
  Calls Try.prog 54 #[.pointer (some ⟨E.gG, 0, none⟩), .int .i64 (node : Int), .int .i64 (d : Int), .int .i64 (i : Int)] ws (E.Post w ws PE VG (imOn E.T x d i)) := by
 obtain ⟨PG, PN, gG, gE, gR, BN, DN, T, L, ns⟩ := E
 obtain ⟨hne, hL, hT, hgE, hgR, hns, hnaa, htree⟩ := hok
 dsimp only at hne hL hT hgE hgR hns hnaa htree hF ⊢
 have hu := Try.underlying74
 have hu2 := Try.underlying76
 have hu3 := Try.underlying31
 have HNE := am hne
 have HL := am hL
 have HT := am hT
 have HGE := am (show w.heap.size ≤ gE ∧ w.heap.size ≤ gR from ⟨hgE, hgR⟩)
 have HFF := am hF
 intro m
 induction m with
 | zero => intro node d i ks ws PE hm; omega
 | succ m ih =>
 intro node d i ks ws PE hm hd hi hnode hAt
 have IH := am ih
 have HMU := am hm
 have HND := am hnode
 obtain ⟨hrw, _, hcn⟩ := htree node x ks hnode
 obtain ⟨hkl, hkid⟩ := hnaa node x ks hnode
 have hnl : node < ns.length := (List.getElem?_eq_some_iff.1 hnode).1
 clear ih hm hF htree hnaa hne hL hgE hgR
 obtain ⟨hb_, hg_, hn_, he_, hge_, hne_⟩ := hAt
 dsimp only at hb_ hg_ hn_ he_ hge_ hne_
 have HB := am hb_
 have HG := am hg_
 have HN := am hn_
 have HE := am he_
 have D_G_E := am hge_
 have D_N_E := am hne_
 have HK := am (Kept.refl ws (fun k_ => k_ = gE ∨ k_ = gR))
 have HM1 := am (show ∀ k, PE k → PE k from fun _ h => h)
 have HM2 := am (show ∀ k, PE k → PE k ∨ ws.heap.size ≤ k from fun _ h => .inl h)
 clear hb_ hg_ hn_ he_ hge_ hne_
 obtain ⟨f0, f1, f2, f3, l⟩ := x
 dsimp only at hkind hd hrw hkl hkid
 rw [rxW] at hrw
 obtain ⟨_, _, hw1, hw2, _, _, _⟩ := hrw
 rw [cnt] at hcn
 have HLN := am (show l.length < 1099511627776 from by have := cntL_ge l; omega)
 clear hcn
 have HKL := am hkl
 have HKID := am hkid
 have HI := am hi
 have HNL := am (show node < 1099511627776 from by omega)
 have HN2 := am hnl
 obtain ⟨adN, A4, c4, A5, c5, eBN, ha0, ha1, ha2, ha3, ha4, ha5, hq_, _⟩ := at_NAF HN.out node _ hnode
 subst eBN
 dsimp only at ha0 ha1 ha2 ha3 ha4 ha5 hq_
 have HQ := am hq_
 have D_Q_E := D_N_E
 have q1_ := zn node
 have q2_ := il hnl
 have q3_ := eq_true hnl
 clear hq_ hkl hkid hnode hnl
 replace jG := HG.out.c5
 obtain ⟨d1, hmin, hEQ, hsame, hless⟩ : ∃ d1 : Nat, (f0 = 9 → f2 < 0 → (if f1 < (d : Int) then f1 else (d : Int)) = (d1 : Int)) ∧ imOn T (⟨f0, f1, f2, f3, l⟩ : S31) d1 i = imOn T (⟨f0, f1, f2, f3, l⟩ : S31) d i ∧ (f0 = 7 ∨ ¬ f2 < 0 → d1 = d) ∧ (f0 = 9 → f2 < 0 → d1 ≤ f1.toNat ∧ (d1 < f1.toNat → d1 = d)) := by
  by_cases c : (f0 = 9 ∧ f2 < 0) ∧ f1 < (d : Int)
  ·
   have h9 := c.1.1
   have h20 := hw2 c.1.1
   refine ⟨f1.toNat, fun _ _ => by rw [if_pos c.2]; omega, ?_, fun h => by have := c.1; omega, fun _ _ => ⟨Nat.le_refl _, fun h => absurd h (Nat.lt_irrefl _)⟩⟩
   subst h9
   show rowOf T.size (onw (imTx T) T.size ⟨9, f1, f2, f3, l⟩ f1.toNat i) = rowOf T.size (onw (imTx T) T.size ⟨9, f1, f2, f3, l⟩ d i)
   rw [onw_same (imTx T) T.size f1 f2 f3 l d (by omega) c.1.2]
  exact ⟨d, fun h1 h2 => if_neg (fun h => c ⟨⟨h1, h2⟩, h⟩), rfl, fun _ => rfl, fun h1 h2 => ⟨by have h20 := hw2 h1; have : ¬ f1 < (d : Int) := fun h => c ⟨⟨h1, h2⟩, h⟩; omega, fun _ => rfl⟩⟩
 have HEQ := am hEQ
 have HSAME := am hsame
 have HLESS := am hless
 have HKEY := am (show node < 9223372036854775808 ∧ d1 < 9223372036854775808 ∧ i < 9223372036854775808 from ⟨by have := HNL.out; omega, by
  have h1 := HLN.out
  by_cases c : f0 = 9 ∧ f2 < 0
  ·
   have := hless c.1 c.2; have := hw2 c.1; omega
  have h2 := hsame (by omega); rcases hkind with h3 | h3
  ·
   have := hd.1 h3; omega
  have := hd.2 h3; omega, by have := HT.out; omega⟩)
 have HMIN := am hmin
 have HKI := am hkind
 have HD_ := am hd
 have HW1_ := am hw1
 have HW2_ := am hw2
 clear hEQ hsame hless hmin hkind hd hw1 hw2
 obtain ⟨b9, hb9⟩ : ∃ b_ : Bool, b_ = (decide (f0 = 9) && decide (f2 < 0)) := ⟨_, rfl⟩
 have HB9 := am hb9
 clear hb9
 go_enter Try.func54, Try.ntmps54
 go_upto_region 2 with (first | ((with_reducible refine gd 9 rfl ?_); refine bx_ (N := 9) (cs := #[.int .i64 0, .int .i64 0, .int .i64 0, .string ByteArray.empty, .slice none 0 0, .slice none 0 0]) (t := 76) rfl rfl ?hr_1 ?_; (case hr_1 => first | (go_simp; done) | (go_simp; rfl)); intro gX1 hg w2 hb hk PX1 hPX1 HX1; have GEX1 := ge_ hg HB; have D_G_X1 := na hPX1 HG; have D_N_X1 := nl hPX1 HN.out.lt; have D_E_X1 := nl hPX1 HE.out.lt; have D_Q_X1 := nl hPX1 HQ.out.lt; have RRX1 := ra HK hPX1; replace HG := sn hk HG; replace HN := nn hk HN; replace HE := am (HE.out.step hk no_S); replace HQ := nn hk HQ; replace HK := kt HK hk; replace HB := bs HB hb; clear hb hk hg hPX1; replace jG := HG.out.c5; replace jX1 := HX1.out.c6) | ((with_reducible refine gate_store (t := 76) (p := 9) rfl ?_); refine LB.storedW HX1.out HB.out GEX1.out [.int .i64 f0, .int .i64 f1, .int .i64 f2, .string f3, .slice A4 l.length c4, .slice A5 ks.length c5] rfl rfl (t := 76) (p := 9) rfl rfl ?hr_2 ?_; (case hr_2 => first | (go_simp; done) | (go_simp; simp only [World.setCells, Nat.reduceAdd, Nat.zero_add]; done)); intro w2 hx hk hb; replace HG := ss hk HG D_G_X1.out; replace HN := ns_ hk HN D_N_X1.out; replace HE := am (HE.out.step hk D_E_X1.out); replace HQ := ns_ hk HQ D_Q_X1.out; replace HK := kr HK hk RRX1; replace HB := am hb; replace HX1 := am (show LB w2 PX1 gX1 76 #[.int .i64 f0, .int .i64 f1, .int .i64 f2, .string f3, .slice A4 l.length c4, .slice A5 ks.length c5] from hx); clear hk hx hb; replace jG := HG.out.c5; replace jX1 := HX1.out.c6))
 try simp only [Act.put, List.setIfInBounds_toArray, List.set_cons_zero, List.set_cons_succ]
 go_cut [36] from 20 to 37 (fun v36 w' => v36 = .bool b9 ∧ w' = w2)
 case first =>
  rcases HKI.out with hk | hk
  ·
   have k9 : (f0 == 9) = false := bnf (by omega)
   have HKD := am hk
   clear hk
   go_wp2
   go_meet
   case rel => exact ⟨by rw [HB9.out, decide_eq_false (show ¬ f0 = 9 by have := HKD.out; omega)]; rfl, rfl⟩
  have k9 : (f0 == 9) = true := beq_iff_eq.mpr hk
  have HKD := am hk
  clear hk
  obtain ⟨bm, hbm⟩ : ∃ b_ : Bool, decide (f2 < 0) = b_ := ⟨_, rfl⟩
  go_wp2
  go_meet
  case rel => exact ⟨by rw [HB9.out, decide_eq_true HKD.out, hbm]; rfl, rfl⟩
 case rest =>
  obtain ⟨rfl, rfl⟩ := hcut
  go_upto_if 36 with (fail)
  go_cut [2] from 20 to 37 (fun v2 w' => v2 = .int .i64 (d1 : Int) ∧ w' = wc)
  case first =>
   have h9 := HB9.out
   rcases b9 with _ | _
   ·
    obtain rfl : d = d1 := (HSAME.out (by by_cases c : f0 = 9; (rw [decide_eq_true c, Bool.true_and] at h9; exact .inr (of_decide_eq_false h9.symm)); (exact .inl (HKI.out.resolve_right c)))).symm
    go_wp2
    go_meet
    case rel => exact ⟨rfl, rfl⟩
   have hmin := HMIN.out (of_decide_eq_true ((Bool.and_eq_true _ _).mp h9.symm).1) (of_decide_eq_true ((Bool.and_eq_true _ _).mp h9.symm).2)
   clear h9
   go_wp2
   go_meet
   case rel => exact ⟨by first | rfl | exact congrArg (Value.int .i64) hmin, rfl⟩
  case rest =>
   obtain ⟨rfl, rfl⟩ := hcut
   go_upto_region 5 with (first | ((with_reducible refine gd 10 rfl ?_); refine bx_ (N := 10) (cs := #[.int .i64 0, .int .i64 0, .int .i64 0]) (t := 101) rfl rfl ?hr_3 ?_; (case hr_3 => first | (go_simp; done) | (go_simp; rfl)); intro gX2 hg w2 hb hk PX2 hPX2 HX2; have GEX2 := ge_ hg HB; have D_G_X2 := na hPX2 HG; have D_N_X2 := nl hPX2 HN.out.lt; have D_E_X2 := nl hPX2 HE.out.lt; have D_Q_X2 := nl hPX2 HQ.out.lt; have D_X1_X2 := na hPX2 HX1; have RRX2 := ra HK hPX2; replace HG := sn hk HG; replace HN := nn hk HN; replace HE := am (HE.out.step hk no_S); replace HQ := nn hk HQ; replace HX1 := sn hk HX1; replace HK := kt HK hk; replace HB := bs HB hb; clear hb hk hg hPX2; replace jG := HG.out.c5; replace jX1 := HX1.out.c6; replace jX2 := HX2.out.c3) | ((with_reducible refine gate_store (t := 101) (p := 10) rfl ?_); refine LB.storedW HX2.out HB.out GEX2.out [.int .i64 (node : Int), .int .i64 (d1 : Int), .int .i64 (i : Int)] rfl rfl (t := 101) (p := 10) rfl rfl ?hr_4 ?_; (case hr_4 => first | (go_simp; done) | (go_simp; simp only [World.setCells, Nat.reduceAdd, Nat.zero_add]; done)); intro w2 hx hk hb; replace HG := ss hk HG D_G_X2.out; replace HN := ns_ hk HN D_N_X2.out; replace HE := am (HE.out.step hk D_E_X2.out); replace HQ := ns_ hk HQ D_Q_X2.out; replace HX1 := ss hk HX1 D_X1_X2.out; replace HK := kr HK hk RRX2; replace HB := am hb; replace HX2 := am (show LB w2 PX2 gX2 101 #[.int .i64 (node : Int), .int .i64 (d1 : Int), .int .i64 (i : Int)] from hx); clear hk hx hb; replace jG := HG.out.c5; replace jX1 := HX1.out.c6; replace jX2 := HX2.out.c3))
   refine sr (n := 11) (S := fun w' => w'.cell? ⟨gG, 3, none⟩ = some (.map (some gR)) ∧ w'.cell? ⟨gX2, 0, none⟩ = some (.int .i64 (node : Int)) ∧ w'.cell? ⟨gX2, 1, none⟩ = some (.int .i64 (d1 : Int)) ∧ w'.cell? ⟨gX2, 2, none⟩ = some (.int .i64 (i : Int))) (ds := []) ⟨jG.2.2.2.2.2.2.1, jX2.1, jX2.2.2.1, jX2.2.2.2.2.1⟩ (fun hHeld => ?_)
   refine with_tabW impl_onward.tab5 impl_onward.bits5 (fun HT_ HW_ => ?_)
   generalize hwd_ : World.drew w2 = wd_ at hHeld ⊢
   have hk := kept_drew hwd_
   replace HG := sn hk HG
   replace HN := nn hk HN
   replace HE := am (HE.out.step hk no_S)
   replace HQ := nn hk HQ
   replace HX1 := sn hk HX1
   replace HX2 := sn hk HX2
   replace HK := kt HK hk
   replace HB := bd HB hwd_
   clear hk hwd_
   replace jG := HG.out.c5
   replace jX1 := HX1.out.c6
   replace jX2 := HX2.out.c3
   refine pu 0 47 HT_.out rfl rfl rfl ?_
   refine pu 1 48 HT_.out rfl rfl rfl ?_
   refine pu 2 49 HT_.out rfl rfl rfl ?_
   refine tk 3 50 HT_.out HW_.out hHeld rfl rfl rfl ?_
   refine tk 4 51 HT_.out HW_.out hHeld rfl rfl rfl ?_
   rcases (HE.out).look3 node d1 i HKEY.out HND.out with hl_ | ⟨v_, hl_, hv_⟩
   rotate_left
   ·
    refine on_ 5 (some 52) HT_.out rfl rfl fun K hK => ?_
    refine event_step (w1 := wd_) (v := .tuple #[v_, .bool true]) (by rfl) ?hr_5 ?_
    (case hr_5 => go_simp; first | done | (erw [hl_]; rfl))
    skip
    refine hK.out _ _ ⟨jG.2.2.2.2.2.2.1, jX2.1, jX2.2.2.1, jX2.2.2.2.2.1⟩ (fun hHeld => ?_)
    clear hK K
    refine nm ?_
    refine pu 6 46 HT_.out rfl rfl rfl ?_
    refine pu 7 53 HT_.out rfl rfl rfl ?_
    refine pu 8 54 HT_.out rfl rfl rfl ?_
    refine pu 9 11 HT_.out rfl rfl rfl ?_
    refine pu 10 12 HT_.out rfl rfl rfl ?_
    refine dn HT_ ?_
    obtain ⟨A_, c_, rfl, hlc_, hF_⟩ := hv_
    dsimp only at hlc_ hF_
    go_wp2
    go_ret
    exact ⟨PE, A_, c_, rfl, ⟨HB.out, HG.out, HN.out, HE.out, D_G_E.out, D_N_E.out⟩, hlc_, HEQ.out ▸ hF_, HM1.out, HM2.out, HK.out⟩
   refine on_ 5 (some 52) HT_.out rfl rfl fun K hK => ?_
   refine event_step (w1 := wd_) (v := .tuple #[.slice none 0 0, .bool false]) (by rfl) ?hr_6 ?_
   (case hr_6 => go_simp; first | done | (erw [hl_]; rfl))
   skip
   refine hK.out _ _ ⟨jG.2.2.2.2.2.2.1, jX2.1, jX2.2.2.1, jX2.2.2.2.2.1⟩ (fun hHeld => ?_)
   clear hK K
   refine nm ?_
   refine pu 6 46 HT_.out rfl rfl rfl ?_
   refine pu 7 53 HT_.out rfl rfl rfl ?_
   refine pu 8 54 HT_.out rfl rfl rfl ?_
   refine pu 9 11 HT_.out rfl rfl rfl ?_
   refine pu 10 12 HT_.out rfl rfl rfl ?_
   refine dn HT_ ?_
   go_upto_block 0 with (first | ((with_reducible refine gc 50 rfl ?_); refine gl_ (some 58) rfl rfl Try.func50 #[.pointer (some ⟨gG, 0, none⟩)] rfl rfl ?_; (with_reducible refine (impl_none w _ PG gG T _ _ _ _ L HL.out HB.out HG.out HT.out).mono ?_); rintro e w2 ⟨BO, cO, PO, rfl, ho_, hb_, hk_, hn_⟩; refine ⟨_, rfl, ?_⟩; obtain ⟨gO, cq, he_, _, _, _⟩ := Kd.R_form ho_.1 (by rw [rowOf_len]; omega); injection he_ with ea_ el_ ec_; clear el_; subst ea_ ec_; have D_G_O := ap_ hn_ HG; have D_N_O := am (apn HN.out.lt hn_); have D_E_O := am (apn HE.out.lt hn_); have D_Q_O := am (apn HQ.out.lt hn_); have D_X1_O := ap_ hn_ HX1; have D_X2_O := ap_ hn_ HX2; replace HG := sn hk_ HG; replace HN := nn hk_ HN; replace HE := am (HE.out.step hk_ no_S); replace HQ := nn hk_ HQ; replace HX1 := sn hk_ HX1; replace HX2 := sn hk_ HX2; have RRO := am (rrm HK.out hn_); replace HK := kt HK hk_; replace HB := am hb_; have HO := am ho_; clear ho_ hb_ hk_ hn_; replace jG := HG.out.c5; replace jX1 := HX1.out.c6; replace jX2 := HX2.out.c3))
   go_cut [] from 14 to 20 (fun w' => ∃ PE1 : Nat → Prop, Aside0 (Below w.heap.size w w') ∧ Aside0 (LB w' PG gG 74 #[.string T, .slice (some adN) ns.length DN, .map (some gE), .map (some gR), VG]) ∧ Aside0 (LN kNA 76 w' w.heap.size PN (.slice (some adN) ns.length DN) ns) ∧ Aside0 (imK ⟨PG, PN, gG, gE, gR, some adN, DN, T, L, ns⟩ w' PE1) ∧ Aside0 (LN (Kd.int .i64) 3 w' w.heap.size PN (.slice A5 ks.length c5) ks) ∧ Aside0 (LB w' PX1 gX1 76 #[.int .i64 f0, .int .i64 f1, .int .i64 f2, .string f3, .slice A4 l.length c4, .slice A5 ks.length c5]) ∧ Aside0 (LB w' PX2 gX2 101 #[.int .i64 (node : Int), .int .i64 (d1 : Int), .int .i64 (i : Int)]) ∧ Aside0 (LR Kd.bool 4 w' w.heap.size PO (.slice (some ⟨gO, 0, none⟩) L cO) (imOn T (⟨f0, f1, f2, f3, l⟩ : S31) d1 i)) ∧ Aside0 (∀ k, PG k → ¬ PE1 k) ∧ Aside0 (∀ k, PN k → ¬ PE1 k) ∧ Aside0 (∀ k, PN k → ¬ PE1 k) ∧ Aside0 (∀ k, PX1 k → ¬ PE1 k) ∧ Aside0 (∀ k, PX2 k → ¬ PE1 k) ∧ Aside0 (∀ k, PO k → ¬ PE1 k) ∧ Aside0 (Kept ws w' (fun k_ => k_ = gE ∨ k_ = gR)) ∧ Aside0 (∀ k, PE k → PE1 k) ∧ Aside0 (∀ k, PE1 k → PE k ∨ ws.heap.size ≤ k))
   case first =>
    have hd := HD_.out
    have hw1 := HW1_.out
    have hw2 := HW2_.out
    clear HD_ HW1_ HW2_
    rcases HKI.out with hk | hk
    ·
     have k7 : (f0 == 7) = true := beq_iff_eq.mpr hk
     have k9 : (f0 == 9) = false := bnf (by omega)
     have hdl := hd.1 hk
     have HDL := am hdl
     have HK7 := am hk
     obtain rfl : d = d1 := (HSAME.out (.inl hk)).symm
     clear hd hdl hw1 hw2 hk
     by_cases hde : d = l.length
     ·
      have e1 : ((d : Int) == (ks.length : Int)) = true := beq_iff_eq.mpr (by have := HKL.out; omega)
      have e1n : (d == ks.length) = true := beq_iff_eq.mpr (by have := HKL.out; omega)
      have HDE := am hde
      clear hde
      go_upto_region 18 with (fail)
      obtain ⟨hy0, hy1⟩ := im_at HO.out i (by have := HI.out; have := HL.out; omega)
      have z1 := zn i
      have z2 := eq_true (show (i : Int) < (L : Int) by have := HI.out; have := HL.out; omega)
      have z3 := eq_true (show i < L by have := HI.out; have := HL.out; omega)
      go_wp2_with (first | ((with_reducible refine gate_store (t := 4) (p := 115) rfl ?_); refine im_put1 HO.out HB.out i (by have := HI.out; have := HL.out; omega) true rfl (t := 4) (p := 115) rfl rfl ?hr_8 ?_; (case hr_8 => first | (go_simp; done) | (go_simp; simp only [World.setCells, Nat.reduceAdd, Nat.zero_add]; done)); intro w2 hx hk hb; replace HG := ss hk HG D_G_O.out; replace HN := ns_ hk HN D_N_O.out; replace HE := am (HE.out.step hk D_E_O.out); replace HQ := ns_ hk HQ D_Q_O.out; replace HX1 := ss hk HX1 D_X1_O.out; replace HX2 := ss hk HX2 D_X2_O.out; replace HK := kr HK hk RRO; replace HB := am hb; rw [rowOf_set] at hx; replace HO := am hx; clear hk hx hb; (try clear hy0 hy1); replace jG := HG.out.c5; replace jX1 := HX1.out.c6; replace jX2 := HX2.out.c3))
      have hrow_ : rowOf T.size (fun j => if j = i then true else false) = imOn T (⟨f0, f1, f2, f3, l⟩ : S31) d i := by rw [HDE.out]; refine rowOf_congr (fun j hj => ?_); have hk := HK7.out; subst hk; rw [onw_cat_end]; by_cases e : i = j; (subst e; simp); (rw [if_neg (fun h => e h.symm)]; exact (beq_eq_false_iff_ne.2 e).symm)
      replace HO := am (hrow_ ▸ HO.out)
      clear hrow_
      skip
      go_meet
      case rel => exact rmP0
     have e1 : ((d : Int) == (ks.length : Int)) = false := beq_eq_false_iff_ne.mpr (by have := HKL.out; omega)
     have e1n : (d == ks.length) = false := beq_eq_false_iff_ne.mpr (by have := HKL.out; omega)
     have HDE := am (show d < l.length by have := HDL.out; omega)
     clear hde
     obtain ⟨y, hy⟩ : ∃ y, l[d]? = some y := ⟨_, List.getElem?_eq_getElem (HDE.out)⟩
     obtain ⟨pk, ks2, hpk, hpn⟩ := HKID.out d y hy
     try dsimp only at hpk
     have HFY := am (HFF.out y (List.mem_of_getElem? hy) pk ks2 i)
     have HPN := am hpn
     have HPK := am hpk
     have hkq : d < ks.length := (List.getElem?_eq_some_iff.1 hpk).1
     have HKQ := am hkq
     have v1_ := il hkq
     have v2_ := eq_true hkq
     have v0_ := zn d
     clear hpk hpn hkq
     go_upto_region 20 with (fail)
     obtain ⟨ad5, eA5, hk5⟩ := im_atI HQ.out d HKQ.out HPK.out
     go_wp2_with (first | ((with_reducible refine gc 38 rfl ?_); refine gl_ (some 128) rfl rfl Try.func38 #[.pointer (some ⟨gG, 0, none⟩), .int .i64 (pk : Int), .int .i64 (i : Int)] rfl rfl ?_; (with_reducible refine (HFY.out _ _ HPN.out HI.out ⟨HB.out, HG.out, HN.out, HE.out, D_G_E.out, D_N_E.out⟩).mono ?_); rintro e w2 ⟨PE3, AR, cR, rfl, ⟨hb_, hg_, hn_, he_, hge_, hne_⟩, hcl_, hF_, hm1_, hm2_, hkk_⟩; refine ⟨_, rfl, ?_⟩; dsimp only at hb_ hg_ hn_ he_ hge_ hne_ hcl_ hF_ hkk_; have D_Q_E3 := ax hm2_ HQ.out.lt D_Q_E; have D_X1_E3 := ay hm2_ HX1.out.lt D_E_X1; have D_X2_E3 := ay hm2_ HX2.out.lt D_E_X2; have D_O_E3 := ay hm2_ HO.out.lt D_E_O; replace HQ := am (HQ.out.step hkk_ (imNotK D_Q_E.out HE.out.1)); replace HX1 := am (HX1.out.step hkk_ (imNotK (apart_symm D_E_X1.out) HE.out.1)); replace HX2 := am (HX2.out.step hkk_ (imNotK (apart_symm D_E_X2.out) HE.out.1)); replace HO := am (HO.out.step hkk_ (imNotK (apart_symm D_E_O.out) HE.out.1)); replace HM1 := hm1w HM1 hm1_; replace HM2 := hm2w HM2 hm2_ HK; have HR := am (imLN (base := w.heap.size) (rowOf_len' HL.out _) hcl_ hF_ (fun k h => he_.lt k h.1)); have D_R_K := drk PE3 gE gR; have D_R_O := dro gE gR D_O_E3; replace HK := kl HK hkk_; replace HB := am hb_; replace HG := am hg_; replace HN := am hn_; have HE3 := am he_; have D_G_E3 := am hge_; have D_N_E3 := am hne_; clear hb_ hg_ hn_ he_ hge_ hne_ hcl_ hF_ hm1_ hm2_ hkk_ HE; replace jG := HG.out.c5; replace jX1 := HX1.out.c6; replace jX2 := HX2.out.c3))
     obtain ⟨adR, eR_, _⟩ := im_atN HR.out 0 (by have := HL.out; omega)
     subst eR_
     have HY := am hy
     clear hy hk5
     go_loopg [130] (L + 1) (fun kq v130 w' => ∃ (e : Nat) (PE1 : Nat → Prop), v130 = .int .i64 (e : Int) ∧ Aside0 (e + kq = L + 1 ∧ 0 < kq) ∧ Aside0 (Below w.heap.size w w') ∧ Aside0 (LB w' PG gG 74 #[.string T, .slice (some adN) ns.length DN, .map (some gE), .map (some gR), VG]) ∧ Aside0 (LN kNA 76 w' w.heap.size PN (.slice (some adN) ns.length DN) ns) ∧ Aside0 (LN (Kd.int .i64) 3 w' w.heap.size PN (.slice A5 ks.length c5) ks) ∧ Aside0 (LB w' PX1 gX1 76 #[.int .i64 f0, .int .i64 f1, .int .i64 f2, .string f3, .slice A4 l.length c4, .slice A5 ks.length c5]) ∧ Aside0 (LB w' PX2 gX2 101 #[.int .i64 (node : Int), .int .i64 (d : Int), .int .i64 (i : Int)]) ∧ Aside0 (LR Kd.bool 4 w' w.heap.size PO (.slice (some ⟨gO, 0, none⟩) L cO) (rowOf T.size (accK (fun _ => false) (fun q => mat (imTx T) T.size y i q) (onw (imTx T) T.size (⟨f0, f1, f2, f3, l⟩ : S31) (d + 1)) e))) ∧ Aside0 (imK ⟨PG, PN, gG, gE, gR, some adN, DN, T, L, ns⟩ w' PE1) ∧ Aside0 (LN Kd.bool 4 w' w.heap.size (fun k => PE3 k ∧ k ≠ gE ∧ k ≠ gR) (.slice (some adR) L cR) (rowOf T.size (mat (imTx T) T.size y i))) ∧ Aside0 (∀ k, PG k → ¬ PE1 k) ∧ Aside0 (∀ k, PN k → ¬ PE1 k) ∧ Aside0 (∀ k, PN k → ¬ PE1 k) ∧ Aside0 (∀ k, PX1 k → ¬ PE1 k) ∧ Aside0 (∀ k, PX2 k → ¬ PE1 k) ∧ Aside0 (∀ k, PO k → ¬ PE1 k) ∧ Aside0 (Kept ws w' (fun k_ => k_ = gE ∨ k_ = gR)) ∧ Aside0 (∀ k, PE k → PE1 k) ∧ Aside0 (∀ k, PE1 k → PE k ∨ ws.heap.size ≤ k))
     case atStart => exact ⟨0, _, rfl, ⟨by omega, by omega⟩, HB, HG, HN, HQ, HX1, HX2, ⟨by rw [accK_zero]; exact HO.out⟩, HE3, HR, ⟨D_G_E3.out⟩, ⟨D_N_E3.out⟩, ⟨D_Q_E3.out⟩, ⟨D_X1_E3.out⟩, ⟨D_X2_E3.out⟩, ⟨D_O_E3.out⟩, HK, HM1, HM2⟩
     case round =>
      clear HB HK HM1 HM2 HG HN HQ HX1 HX2 HO HE3 HR
      clear D_G_E3 D_N_E3 D_Q_E3 D_X1_E3 D_X2_E3 D_O_E3
      try clear jG
      try clear jX1
      try clear jX2
      obtain ⟨e, PZ, rfl, HX, HB, HG, HN, HQ, HX1, HX2, HO, HZ, HR, D_G_Z, D_N_Z, D_Q_Z, D_X1_Z, D_X2_Z, D_O_Z, HK, HM1, HM2⟩ := hrel
      replace jG := HG.out.c5
      replace jX1 := HX1.out.c6
      replace jX2 := HX2.out.c3
      by_cases hlt : e < L
      ·
       obtain ⟨k1, rfl⟩ : ∃ k_, gk = k_ + 1 := ⟨gk - 1, by have := HX.out; omega⟩
       have HE2 := am (show e ≤ T.size ∧ e + 1 + k1 = L + 1 ∧ 0 < k1 from by have h1 := HX.out; have h2 := HL.out; exact ⟨by omega, by omega, by omega⟩)
       obtain ⟨_, eR_, hr0⟩ := im_atN HR.out e hlt
       cases eR_
       rw [rowOf_getD _ _ _ HE2.out.1] at hr0
       have hwe : wrap64 ((e : Int) + 1) = ((e + 1 : Nat) : Int) := by have := HE2.out; have := HT.out; unfold wrap64; omega
       have z1 := zn e
       have z2 := il hlt
       have z2d := dl hlt
       have z3 := eq_true hlt
       have z3d := decide_eq_true hlt
       clear hlt
       rcases hb_ : mat (imTx T) T.size y i e with _ | _
       ·
        rw [hb_] at hr0
        have HBF := am hb_
        clear hb_
        go_wp2
        go_roundg k1
        case measure => omega
        case rel => exact rmP1
       rw [hb_] at hr0
       have HBT := am hb_
       clear hb_
       have HGT := am (show i ≤ e from ((mat_le (imTx T) T.size _).1 y (Nat.le_refl _) i e HBT.out))
       have IO := (fun (ws' : World) (PE' : Nat → Prop) h => IH.out node (d + 1) e ks ws' PE' (by have h1 := HMU.out; have h2 := HGT.out; have h3 := HE2.out; have h4 := HI.out; (try dsimp only at h1 h4); exact Nat.lt_of_lt_of_le (imMu h2 h3.1 (.inl ⟨rfl, by have := HDE.out; omega⟩)) (Nat.le_of_lt_succ h1)) ⟨fun _ => HDE.out, fun h => absurd (h.symm.trans HK7.out) (by decide)⟩ HE2.out.1 HND.out h)
       try dsimp only at IO
       rw [show (((d + 1) : Nat) : Int) = (d : Int) + 1 from rfl] at IO
       replace IO := am IO
       have hwd : wrap64 ((d : Int) + 1) = (d : Int) + 1 := by have := HLN.out; have := HDE.out; unfold wrap64; omega
       have hwdk : IntKind.i64.wrap ((d : Int) + 1) = (d : Int) + 1 := (i64_w _).trans hwd
       go_wp2_with (first | ((with_reducible refine gc 54 rfl ?_); refine gl_ (some 142) rfl rfl Try.func54 #[.pointer (some ⟨gG, 0, none⟩), .int .i64 (node : Int), .int .i64 ((d : Int) + 1), .int .i64 (e : Int)] rfl rfl ?_; (with_reducible refine (IO.out _ _ ⟨HB.out, HG.out, HN.out, HZ.out, D_G_Z.out, D_N_Z.out⟩).mono ?_); rintro e w2 ⟨PE4, AS, cS, rfl, ⟨hb_, hg_, hn_, he_, hge_, hne_⟩, hcl_, hF_, hm1_, hm2_, hkk_⟩; refine ⟨_, rfl, ?_⟩; dsimp only at hb_ hg_ hn_ he_ hge_ hne_ hcl_ hF_ hkk_; have D_Q_E4 := ax hm2_ HQ.out.lt D_Q_Z; have D_X1_E4 := ax hm2_ HX1.out.lt D_X1_Z; have D_X2_E4 := ax hm2_ HX2.out.lt D_X2_Z; have D_O_E4 := ax hm2_ HO.out.lt D_O_Z; replace HQ := am (HQ.out.step hkk_ (imNotK D_Q_Z.out HZ.out.1)); replace HX1 := am (HX1.out.step hkk_ (imNotK D_X1_Z.out HZ.out.1)); replace HX2 := am (HX2.out.step hkk_ (imNotK D_X2_Z.out HZ.out.1)); replace HO := am (HO.out.step hkk_ (imNotK D_O_Z.out HZ.out.1)); replace HR := ns_ hkk_ HR D_R_K.out; replace HM1 := hm1w HM1 hm1_; replace HM2 := hm2w HM2 hm2_ HK; have HS := am (imLN (base := w.heap.size) (rowOf_len' HL.out _) hcl_ hF_ (fun k h => he_.lt k h.1)); have D_S_K := drk PE4 gE gR; have D_S_O := dro gE gR D_O_E4; replace HK := kl HK hkk_; replace HB := am hb_; replace HG := am hg_; replace HN := am hn_; have HE4 := am he_; have D_G_E4 := am hge_; have D_N_E4 := am hne_; clear hb_ hg_ hn_ he_ hge_ hne_ hcl_ hF_ hm1_ hm2_ hkk_ HZ; replace jG := HG.out.c5; replace jX1 := HX1.out.c6; replace jX2 := HX2.out.c3) | ((with_reducible refine gc 53 rfl ?_); refine gl_ (some 143) rfl rfl Try.func53 #[.slice (some ⟨gO, 0, none⟩) L cO, .slice AS L cS] rfl rfl ?_; (with_reducible refine (im_join w _ PO _ gO L cO T.size _ _ _ _ HL.out HT.out HB.out HO.out HS.out D_S_O.out).mono ?_); rintro e w2 ⟨rfl, ho_, hb_, hk_⟩; refine ⟨_, rfl, ?_⟩; replace HG := ss hk_ HG D_G_O.out; replace HN := ns_ hk_ HN D_N_O.out; replace HQ := ns_ hk_ HQ D_Q_O.out; replace HX1 := ss hk_ HX1 D_X1_O.out; replace HX2 := ss hk_ HX2 D_X2_O.out; replace HR := ns_ hk_ HR D_R_O.out; replace HE4 := am (HE4.out.step hk_ (apart_symm D_O_E4.out)); replace HS := ns_ hk_ HS D_S_O.out; replace HK := kr HK hk_ RRO; replace HB := am hb_; replace HO := am ho_; clear ho_ hb_ hk_; replace jG := HG.out.c5; replace jX1 := HX1.out.c6; replace jX2 := HX2.out.c3))
       go_roundg k1
       case measure => omega
       case rel => exact ⟨e + 1, _, by first | rfl | exact congrArg (Value.int .i64) hwe, ⟨HE2.out.2⟩, HB, HG, HN, HQ, HX1, HX2, ⟨by rw [accK_yes _ _ _ _ (by simp [HBT.out])]; exact HO.out⟩, HE4, HR, ⟨D_G_E4.out⟩, ⟨D_N_E4.out⟩, ⟨D_Q_E4.out⟩, ⟨D_X1_E4.out⟩, ⟨D_X2_E4.out⟩, ⟨D_O_E4.out⟩, HK, HM1, HM2⟩
      have hel : e = L := by have := HX.out; omega
      have z2d : decide ((e : Int) < (L : Int)) = false := decide_eq_false (by omega)
      have z3d : decide (e < L) = false := decide_eq_false hlt
      have HEL := am (show e = T.size + 1 from hel.trans HL.out)
      clear hel hlt
      have hrow_ : rowOf T.size (accK (fun _ => false) (fun q => mat (imTx T) T.size y i q) (onw (imTx T) T.size (⟨f0, f1, f2, f3, l⟩ : S31) (d + 1)) e) = imOn T (⟨f0, f1, f2, f3, l⟩ : S31) d i := by rw [HEL.out]; exact imCat (imTx T) T.size f0 f1 f2 f3 l d i y HK7.out HDE.out HY.out
      replace HO := am (hrow_ ▸ HO.out)
      clear hrow_
      go_wp2
      go_meet
      case rel => exact rmP2
    have k7 : (f0 == 7) = false := bnf (by omega)
    have k9 : (f0 == 9) = true := beq_iff_eq.mpr hk
    have hd9 := hd.2 hk
    obtain ⟨hf0, hf20, hfm⟩ := hw2 hk
    have hl1 := hw1 (.inr hk)
    obtain ⟨F1, rfl⟩ := Int.eq_ofNat_of_zero_le hf0
    have HK9 := am hk
    have HL1 := am hl1
    have HD9 := am hd9
    have HF1 := am (show F1 ≤ 20 by omega)
    have HFM := am hfm
    clear hd hw1 hw2 hk hf0 hf20 hl1
    by_cases cm : f2 < 0
    ·
     have CM := am cm
     have cmb : decide (f2 < 0) = true := decide_eq_true cm
     have hl_ := HLESS.out HK9.out cm
     rw [Int.toNat_natCast] at hl_
     have HD1 := am hl_
     clear hl_
     clear cm hfm hd9
     by_cases hdf : d1 < F1
     ·
      have e1 : decide ((d1 : Int) < (F1 : Int)) = true := decide_eq_true (by omega)
      have e1n := decide_eq_true hdf
      have HDF := am hdf
      have HDD := am (show d1 = d from HD1.out.2 hdf)
      clear hdf
      obtain ⟨y, hy⟩ : ∃ y, l[0]? = some y := ⟨_, List.getElem?_eq_getElem (by have := HL1.out; omega)⟩
      obtain ⟨pk, ks2, hpk, hpn⟩ := HKID.out 0 y hy
      try dsimp only at hpk
      have HFY := am (HFF.out y (List.mem_of_getElem? hy) pk ks2 i)
      have HPN := am hpn
      have HPK := am hpk
      have hkq : 0 < ks.length := (List.getElem?_eq_some_iff.1 hpk).1
      have HKQ := am hkq
      have v1_ := il hkq
      have v2_ := eq_true hkq
      have v0_ := zn 0
      clear hpk hpn hkq
      go_upto_region 27 with (fail)
      obtain ⟨ad5, eA5, hk5⟩ := im_atI HQ.out 0 HKQ.out HPK.out
      rw [show ad5.add 0 = ad5 from rfl] at hk5
      go_wp2_with (first | ((with_reducible refine gc 38 rfl ?_); refine gl_ (some 157) rfl rfl Try.func38 #[.pointer (some ⟨gG, 0, none⟩), .int .i64 (pk : Int), .int .i64 (i : Int)] rfl rfl ?_; (with_reducible refine (HFY.out _ _ HPN.out HI.out ⟨HB.out, HG.out, HN.out, HE.out, D_G_E.out, D_N_E.out⟩).mono ?_); rintro e w2 ⟨PE5, AR, cR, rfl, ⟨hb_, hg_, hn_, he_, hge_, hne_⟩, hcl_, hF_, hm1_, hm2_, hkk_⟩; refine ⟨_, rfl, ?_⟩; dsimp only at hb_ hg_ hn_ he_ hge_ hne_ hcl_ hF_ hkk_; have D_Q_E5 := ax hm2_ HQ.out.lt D_Q_E; have D_X1_E5 := ay hm2_ HX1.out.lt D_E_X1; have D_X2_E5 := ay hm2_ HX2.out.lt D_E_X2; have D_O_E5 := ay hm2_ HO.out.lt D_E_O; replace HQ := am (HQ.out.step hkk_ (imNotK D_Q_E.out HE.out.1)); replace HX1 := am (HX1.out.step hkk_ (imNotK (apart_symm D_E_X1.out) HE.out.1)); replace HX2 := am (HX2.out.step hkk_ (imNotK (apart_symm D_E_X2.out) HE.out.1)); replace HO := am (HO.out.step hkk_ (imNotK (apart_symm D_E_O.out) HE.out.1)); replace HM1 := hm1w HM1 hm1_; replace HM2 := hm2w HM2 hm2_ HK; have HR := am (imLN (base := w.heap.size) (rowOf_len' HL.out _) hcl_ hF_ (fun k h => he_.lt k h.1)); have D_R_K := drk PE5 gE gR; have D_R_O := dro gE gR D_O_E5; replace HK := kl HK hkk_; replace HB := am hb_; replace HG := am hg_; replace HN := am hn_; have HE5 := am he_; have D_G_E5 := am hge_; have D_N_E5 := am hne_; clear hb_ hg_ hn_ he_ hge_ hne_ hcl_ hF_ hm1_ hm2_ hkk_ HE; replace jG := HG.out.c5; replace jX1 := HX1.out.c6; replace jX2 := HX2.out.c3))
      obtain ⟨adR, eR_, _⟩ := im_atN HR.out 0 (by have := HL.out; omega)
      subst eR_
      have HY := am hy
      clear hy hk5
      go_loopg [159] (L + 1) (fun kq v159 w' => ∃ (e : Nat) (PE1 : Nat → Prop), v159 = .int .i64 (e : Int) ∧ Aside0 (e + kq = L + 1 ∧ 0 < kq) ∧ Aside0 (Below w.heap.size w w') ∧ Aside0 (LB w' PG gG 74 #[.string T, .slice (some adN) ns.length DN, .map (some gE), .map (some gR), VG]) ∧ Aside0 (LN kNA 76 w' w.heap.size PN (.slice (some adN) ns.length DN) ns) ∧ Aside0 (LN (Kd.int .i64) 3 w' w.heap.size PN (.slice A5 ks.length c5) ks) ∧ Aside0 (LB w' PX1 gX1 76 #[.int .i64 f0, .int .i64 (F1 : Int), .int .i64 f2, .string f3, .slice A4 l.length c4, .slice A5 ks.length c5]) ∧ Aside0 (LB w' PX2 gX2 101 #[.int .i64 (node : Int), .int .i64 (d1 : Int), .int .i64 (i : Int)]) ∧ Aside0 (LR Kd.bool 4 w' w.heap.size PO (.slice (some ⟨gO, 0, none⟩) L cO) (rowOf T.size (accK (fun _ => false) (fun q => mat (imTx T) T.size y i q) (onw (imTx T) T.size (⟨f0, (F1 : Int), f2, f3, l⟩ : S31) (d1 + 1)) e))) ∧ Aside0 (imK ⟨PG, PN, gG, gE, gR, some adN, DN, T, L, ns⟩ w' PE1) ∧ Aside0 (LN Kd.bool 4 w' w.heap.size (fun k => PE5 k ∧ k ≠ gE ∧ k ≠ gR) (.slice (some adR) L cR) (rowOf T.size (mat (imTx T) T.size y i))) ∧ Aside0 (∀ k, PG k → ¬ PE1 k) ∧ Aside0 (∀ k, PN k → ¬ PE1 k) ∧ Aside0 (∀ k, PN k → ¬ PE1 k) ∧ Aside0 (∀ k, PX1 k → ¬ PE1 k) ∧ Aside0 (∀ k, PX2 k → ¬ PE1 k) ∧ Aside0 (∀ k, PO k → ¬ PE1 k) ∧ Aside0 (Kept ws w' (fun k_ => k_ = gE ∨ k_ = gR)) ∧ Aside0 (∀ k, PE k → PE1 k) ∧ Aside0 (∀ k, PE1 k → PE k ∨ ws.heap.size ≤ k))
      case atStart => exact ⟨0, _, rfl, ⟨by omega, by omega⟩, HB, HG, HN, HQ, HX1, HX2, ⟨by rw [accK_zero]; exact HO.out⟩, HE5, HR, ⟨D_G_E5.out⟩, ⟨D_N_E5.out⟩, ⟨D_Q_E5.out⟩, ⟨D_X1_E5.out⟩, ⟨D_X2_E5.out⟩, ⟨D_O_E5.out⟩, HK, HM1, HM2⟩
      case round =>
       clear HB HK HM1 HM2 HG HN HQ HX1 HX2 HO HE5 HR
       clear D_G_E5 D_N_E5 D_Q_E5 D_X1_E5 D_X2_E5 D_O_E5
       try clear jG
       try clear jX1
       try clear jX2
       obtain ⟨e, PZ, rfl, HX, HB, HG, HN, HQ, HX1, HX2, HO, HZ, HR, D_G_Z, D_N_Z, D_Q_Z, D_X1_Z, D_X2_Z, D_O_Z, HK, HM1, HM2⟩ := hrel
       replace jG := HG.out.c5
       replace jX1 := HX1.out.c6
       replace jX2 := HX2.out.c3
       by_cases hlt : e < L
       ·
        obtain ⟨k1, rfl⟩ : ∃ k_, gk = k_ + 1 := ⟨gk - 1, by have := HX.out; omega⟩
        have HE2 := am (show e ≤ T.size ∧ e + 1 + k1 = L + 1 ∧ 0 < k1 from by have h1 := HX.out; have h2 := HL.out; exact ⟨by omega, by omega, by omega⟩)
        obtain ⟨_, eR_, hr0⟩ := im_atN HR.out e hlt
        cases eR_
        rw [rowOf_getD _ _ _ HE2.out.1] at hr0
        have hwe : wrap64 ((e : Int) + 1) = ((e + 1 : Nat) : Int) := by have := HE2.out; have := HT.out; unfold wrap64; omega
        have z1 := zn e
        have z2 := il hlt
        have z2d := dl hlt
        have z3 := eq_true hlt
        have z3d := decide_eq_true hlt
        clear hlt
        rcases hb_ : mat (imTx T) T.size y i e with _ | _
        ·
         rw [hb_] at hr0
         have HBF := am hb_
         clear hb_
         go_wp2
         go_roundg k1
         case measure => omega
         case rel => exact rmP1
        rw [hb_] at hr0
        have HBT := am hb_
        clear hb_
        have HGT := am (show i ≤ e from ((mat_le (imTx T) T.size _).1 y (Nat.le_refl _) i e HBT.out))
        have IO := (fun (ws' : World) (PE' : Nat → Prop) h => IH.out node (d1 + 1) e ks ws' PE' (by have h1 := HMU.out; have h2 := HGT.out; have h3 := HE2.out; have h4 := HI.out; (try dsimp only at h1 h4); exact Nat.lt_of_lt_of_le (imMu h2 h3.1 (.inl ⟨by have h5 := HDD.out; omega, by have h5 := HDD.out; have h6 := HDF.out; have h7 := HF1.out; omega⟩)) (Nat.le_of_lt_succ h1)) ⟨fun h => absurd (h.symm.trans HK9.out) (by decide), fun _ => by have h6 := HDF.out; have h7 := HF1.out; omega⟩ HE2.out.1 HND.out h)
        try dsimp only at IO
        rw [show (((d1 + 1) : Nat) : Int) = (d1 : Int) + 1 from rfl] at IO
        replace IO := am IO
        have hwd : wrap64 ((d1 : Int) + 1) = (d1 : Int) + 1 := by have h6 := HDF.out; have h7 := HF1.out; unfold wrap64; omega
        have hwdk : IntKind.i64.wrap ((d1 : Int) + 1) = (d1 : Int) + 1 := (i64_w _).trans hwd
        go_wp2_with (first | ((with_reducible refine gc 54 rfl ?_); refine gl_ (some 171) rfl rfl Try.func54 #[.pointer (some ⟨gG, 0, none⟩), .int .i64 (node : Int), .int .i64 ((d1 : Int) + 1), .int .i64 (e : Int)] rfl rfl ?_; (with_reducible refine (IO.out _ _ ⟨HB.out, HG.out, HN.out, HZ.out, D_G_Z.out, D_N_Z.out⟩).mono ?_); rintro e w2 ⟨PE6, AS, cS, rfl, ⟨hb_, hg_, hn_, he_, hge_, hne_⟩, hcl_, hF_, hm1_, hm2_, hkk_⟩; refine ⟨_, rfl, ?_⟩; dsimp only at hb_ hg_ hn_ he_ hge_ hne_ hcl_ hF_ hkk_; have D_Q_E6 := ax hm2_ HQ.out.lt D_Q_Z; have D_X1_E6 := ax hm2_ HX1.out.lt D_X1_Z; have D_X2_E6 := ax hm2_ HX2.out.lt D_X2_Z; have D_O_E6 := ax hm2_ HO.out.lt D_O_Z; replace HQ := am (HQ.out.step hkk_ (imNotK D_Q_Z.out HZ.out.1)); replace HX1 := am (HX1.out.step hkk_ (imNotK D_X1_Z.out HZ.out.1)); replace HX2 := am (HX2.out.step hkk_ (imNotK D_X2_Z.out HZ.out.1)); replace HO := am (HO.out.step hkk_ (imNotK D_O_Z.out HZ.out.1)); replace HR := ns_ hkk_ HR D_R_K.out; replace HM1 := hm1w HM1 hm1_; replace HM2 := hm2w HM2 hm2_ HK; have HS := am (imLN (base := w.heap.size) (rowOf_len' HL.out _) hcl_ hF_ (fun k h => he_.lt k h.1)); have D_S_K := drk PE6 gE gR; have D_S_O := dro gE gR D_O_E6; replace HK := kl HK hkk_; replace HB := am hb_; replace HG := am hg_; replace HN := am hn_; have HE6 := am he_; have D_G_E6 := am hge_; have D_N_E6 := am hne_; clear hb_ hg_ hn_ he_ hge_ hne_ hcl_ hF_ hm1_ hm2_ hkk_ HZ; replace jG := HG.out.c5; replace jX1 := HX1.out.c6; replace jX2 := HX2.out.c3) | ((with_reducible refine gc 53 rfl ?_); refine gl_ (some 172) rfl rfl Try.func53 #[.slice (some ⟨gO, 0, none⟩) L cO, .slice AS L cS] rfl rfl ?_; (with_reducible refine (im_join w _ PO _ gO L cO T.size _ _ _ _ HL.out HT.out HB.out HO.out HS.out D_S_O.out).mono ?_); rintro e w2 ⟨rfl, ho_, hb_, hk_⟩; refine ⟨_, rfl, ?_⟩; replace HG := ss hk_ HG D_G_O.out; replace HN := ns_ hk_ HN D_N_O.out; replace HQ := ns_ hk_ HQ D_Q_O.out; replace HX1 := ss hk_ HX1 D_X1_O.out; replace HX2 := ss hk_ HX2 D_X2_O.out; replace HR := ns_ hk_ HR D_R_O.out; replace HE6 := am (HE6.out.step hk_ (apart_symm D_O_E6.out)); replace HS := ns_ hk_ HS D_S_O.out; replace HK := kr HK hk_ RRO; replace HB := am hb_; replace HO := am ho_; clear ho_ hb_ hk_; replace jG := HG.out.c5; replace jX1 := HX1.out.c6; replace jX2 := HX2.out.c3))
        go_roundg k1
        case measure => omega
        case rel => exact ⟨e + 1, _, by first | rfl | exact congrArg (Value.int .i64) hwe, ⟨HE2.out.2⟩, HB, HG, HN, HQ, HX1, HX2, ⟨by rw [accK_yes _ _ _ _ (by simp [HBT.out])]; exact HO.out⟩, HE6, HR, ⟨D_G_E6.out⟩, ⟨D_N_E6.out⟩, ⟨D_Q_E6.out⟩, ⟨D_X1_E6.out⟩, ⟨D_X2_E6.out⟩, ⟨D_O_E6.out⟩, HK, HM1, HM2⟩
       have hel : e = L := by have := HX.out; omega
       have z2d : decide ((e : Int) < (L : Int)) = false := decide_eq_false (by omega)
       have z3d : decide (e < L) = false := decide_eq_false hlt
       have HEL := am (show e = T.size + 1 from hel.trans HL.out)
       clear hel hlt
       have hrow_ : rowOf T.size (accK (fun _ => false) (fun q => mat (imTx T) T.size y i q) (onw (imTx T) T.size (⟨f0, (F1 : Int), f2, f3, l⟩ : S31) (d1 + 1)) e) = imOn T (⟨f0, (F1 : Int), f2, f3, l⟩ : S31) d1 i := by rw [HEL.out]; exact imMust (imTx T) T.size f0 (F1 : Int) f2 f3 l d1 i y HK9.out (by rw [Int.toNat_natCast]; exact HDF.out) HY.out
       replace HO := am (hrow_ ▸ HO.out)
       clear hrow_
       go_wp2
       go_meet
       case rel => exact rmP2
     have e1 : decide ((d1 : Int) < (F1 : Int)) = false := decide_eq_false (by omega)
     have e1n : decide (d1 < F1) = false := decide_eq_false hdf
     have HDF := am hdf
     clear hdf
     have HLE := am (show d1 ≤ 20 by have := HF1.out; have := HD1.out; omega)
     obtain ⟨y, hy⟩ : ∃ y, l[0]? = some y := ⟨_, List.getElem?_eq_getElem (by have := HL1.out; omega)⟩
     obtain ⟨pk, ks2, hpk, hpn⟩ := HKID.out 0 y hy
     try dsimp only at hpk
     have HFY := am (HFF.out y (List.mem_of_getElem? hy) pk ks2 i)
     have HPN := am hpn
     have HPK := am hpk
     have hkq : 0 < ks.length := (List.getElem?_eq_some_iff.1 hpk).1
     have HKQ := am hkq
     have v1_ := il hkq
     have v2_ := eq_true hkq
     have v0_ := zn 0
     clear hpk hpn hkq
     go_upto_region 9 with (fail)
     obtain ⟨hy0, hy1⟩ := im_at HO.out i (by have := HI.out; have := HL.out; omega)
     have z1 := zn i
     have z2 := eq_true (show (i : Int) < (L : Int) by have := HI.out; have := HL.out; omega)
     have z3 := eq_true (show i < L by have := HI.out; have := HL.out; omega)
     go_upto_region 11 with (first | ((with_reducible refine gate_store (t := 4) (p := 61) rfl ?_); refine im_put1 HO.out HB.out i (by have := HI.out; have := HL.out; omega) true rfl (t := 4) (p := 61) rfl rfl ?hr_15 ?_; (case hr_15 => first | (go_simp; done) | (go_simp; simp only [World.setCells, Nat.reduceAdd, Nat.zero_add]; done)); intro w2 hx hk hb; replace HG := ss hk HG D_G_O.out; replace HN := ns_ hk HN D_N_O.out; replace HE := am (HE.out.step hk D_E_O.out); replace HQ := ns_ hk HQ D_Q_O.out; replace HX1 := ss hk HX1 D_X1_O.out; replace HX2 := ss hk HX2 D_X2_O.out; replace HK := kr HK hk RRO; replace HB := am hb; rw [rowOf_set] at hx; replace HO := am hx; clear hk hx hb; (try clear hy0 hy1); replace jG := HG.out.c5; replace jX1 := HX1.out.c6; replace jX2 := HX2.out.c3))
     try clear z1 z2 z3
     obtain ⟨ad5, eA5, hk5⟩ := im_atI HQ.out 0 HKQ.out HPK.out
     rw [show ad5.add 0 = ad5 from rfl] at hk5
     go_wp2_with (first | ((with_reducible refine gc 38 rfl ?_); refine gl_ (some 79) rfl rfl Try.func38 #[.pointer (some ⟨gG, 0, none⟩), .int .i64 (pk : Int), .int .i64 (i : Int)] rfl rfl ?_; (with_reducible refine (HFY.out _ _ HPN.out HI.out ⟨HB.out, HG.out, HN.out, HE.out, D_G_E.out, D_N_E.out⟩).mono ?_); rintro e w2 ⟨PE7, AR, cR, rfl, ⟨hb_, hg_, hn_, he_, hge_, hne_⟩, hcl_, hF_, hm1_, hm2_, hkk_⟩; refine ⟨_, rfl, ?_⟩; dsimp only at hb_ hg_ hn_ he_ hge_ hne_ hcl_ hF_ hkk_; have D_Q_E7 := ax hm2_ HQ.out.lt D_Q_E; have D_X1_E7 := ay hm2_ HX1.out.lt D_E_X1; have D_X2_E7 := ay hm2_ HX2.out.lt D_E_X2; have D_O_E7 := ay hm2_ HO.out.lt D_E_O; replace HQ := am (HQ.out.step hkk_ (imNotK D_Q_E.out HE.out.1)); replace HX1 := am (HX1.out.step hkk_ (imNotK (apart_symm D_E_X1.out) HE.out.1)); replace HX2 := am (HX2.out.step hkk_ (imNotK (apart_symm D_E_X2.out) HE.out.1)); replace HO := am (HO.out.step hkk_ (imNotK (apart_symm D_E_O.out) HE.out.1)); replace HM1 := hm1w HM1 hm1_; replace HM2 := hm2w HM2 hm2_ HK; have HR := am (imLN (base := w.heap.size) (rowOf_len' HL.out _) hcl_ hF_ (fun k h => he_.lt k h.1)); have D_R_K := drk PE7 gE gR; have D_R_O := dro gE gR D_O_E7; replace HK := kl HK hkk_; replace HB := am hb_; replace HG := am hg_; replace HN := am hn_; have HE7 := am he_; have D_G_E7 := am hge_; have D_N_E7 := am hne_; clear hb_ hg_ hn_ he_ hge_ hne_ hcl_ hF_ hm1_ hm2_ hkk_ HE; replace jG := HG.out.c5; replace jX1 := HX1.out.c6; replace jX2 := HX2.out.c3))
     obtain ⟨adR, eR_, _⟩ := im_atN HR.out 0 (by have := HL.out; omega)
     subst eR_
     have HY := am hy
     clear hy hk5
     go_loopg [81] (L + 1) (fun kq v81 w' => ∃ (e : Nat) (PE1 : Nat → Prop), v81 = .int .i64 (e : Int) ∧ Aside0 (e + kq = L + 1 ∧ 0 < kq) ∧ Aside0 (Below w.heap.size w w') ∧ Aside0 (LB w' PG gG 74 #[.string T, .slice (some adN) ns.length DN, .map (some gE), .map (some gR), VG]) ∧ Aside0 (LN kNA 76 w' w.heap.size PN (.slice (some adN) ns.length DN) ns) ∧ Aside0 (LN (Kd.int .i64) 3 w' w.heap.size PN (.slice A5 ks.length c5) ks) ∧ Aside0 (LB w' PX1 gX1 76 #[.int .i64 f0, .int .i64 (F1 : Int), .int .i64 f2, .string f3, .slice A4 l.length c4, .slice A5 ks.length c5]) ∧ Aside0 (LB w' PX2 gX2 101 #[.int .i64 (node : Int), .int .i64 (d1 : Int), .int .i64 (i : Int)]) ∧ Aside0 (LR Kd.bool 4 w' w.heap.size PO (.slice (some ⟨gO, 0, none⟩) L cO) (rowOf T.size (accK (fun j => if j = i then true else false) (fun q => mat (imTx T) T.size y i q && decide (i < q)) (onw (imTx T) T.size (⟨f0, (F1 : Int), f2, f3, l⟩ : S31) (d1 + 1)) e))) ∧ Aside0 (imK ⟨PG, PN, gG, gE, gR, some adN, DN, T, L, ns⟩ w' PE1) ∧ Aside0 (LN Kd.bool 4 w' w.heap.size (fun k => PE7 k ∧ k ≠ gE ∧ k ≠ gR) (.slice (some adR) L cR) (rowOf T.size (mat (imTx T) T.size y i))) ∧ Aside0 (∀ k, PG k → ¬ PE1 k) ∧ Aside0 (∀ k, PN k → ¬ PE1 k) ∧ Aside0 (∀ k, PN k → ¬ PE1 k) ∧ Aside0 (∀ k, PX1 k → ¬ PE1 k) ∧ Aside0 (∀ k, PX2 k → ¬ PE1 k) ∧ Aside0 (∀ k, PO k → ¬ PE1 k) ∧ Aside0 (Kept ws w' (fun k_ => k_ = gE ∨ k_ = gR)) ∧ Aside0 (∀ k, PE k → PE1 k) ∧ Aside0 (∀ k, PE1 k → PE k ∨ ws.heap.size ≤ k))
     case atStart => exact ⟨0, _, rfl, ⟨by omega, by omega⟩, HB, HG, HN, HQ, HX1, HX2, ⟨by rw [accK_zero]; exact HO.out⟩, HE7, HR, ⟨D_G_E7.out⟩, ⟨D_N_E7.out⟩, ⟨D_Q_E7.out⟩, ⟨D_X1_E7.out⟩, ⟨D_X2_E7.out⟩, ⟨D_O_E7.out⟩, HK, HM1, HM2⟩
     case round =>
      clear HB HK HM1 HM2 HG HN HQ HX1 HX2 HO HE7 HR
      clear D_G_E7 D_N_E7 D_Q_E7 D_X1_E7 D_X2_E7 D_O_E7
      try clear jG
      try clear jX1
      try clear jX2
      obtain ⟨e, PZ, rfl, HX, HB, HG, HN, HQ, HX1, HX2, HO, HZ, HR, D_G_Z, D_N_Z, D_Q_Z, D_X1_Z, D_X2_Z, D_O_Z, HK, HM1, HM2⟩ := hrel
      replace jG := HG.out.c5
      replace jX1 := HX1.out.c6
      replace jX2 := HX2.out.c3
      by_cases hlt : e < L
      ·
       obtain ⟨k1, rfl⟩ : ∃ k_, gk = k_ + 1 := ⟨gk - 1, by have := HX.out; omega⟩
       have HE2 := am (show e ≤ T.size ∧ e + 1 + k1 = L + 1 ∧ 0 < k1 from by have h1 := HX.out; have h2 := HL.out; exact ⟨by omega, by omega, by omega⟩)
       obtain ⟨_, eR_, hr0⟩ := im_atN HR.out e hlt
       cases eR_
       rw [rowOf_getD _ _ _ HE2.out.1] at hr0
       have hwe : wrap64 ((e : Int) + 1) = ((e + 1 : Nat) : Int) := by have := HE2.out; have := HT.out; unfold wrap64; omega
       have z1 := zn e
       have z2 := il hlt
       have z2d := dl hlt
       have z3 := eq_true hlt
       have z3d := decide_eq_true hlt
       clear hlt
       rcases hb_ : mat (imTx T) T.size y i e with _ | _
       ·
        rw [hb_] at hr0
        have HBF := am hb_
        clear hb_
        go_wp2
        go_roundg k1
        case measure => omega
        case rel => exact rmP1
       rw [hb_] at hr0
       have HBT := am hb_
       clear hb_
       by_cases hgt : i < e
       ·
        have g1 : decide ((i : Int) < (e : Int)) = true := decide_eq_true (Int.ofNat_lt.2 hgt)
        have g2 := decide_eq_true hgt
        have HGT := am hgt
        clear hgt
        have IO := (fun (ws' : World) (PE' : Nat → Prop) h => IH.out node (d1 + 1) e ks ws' PE' (by have h1 := HMU.out; have h2 := HGT.out; have h3 := HE2.out; have h4 := HI.out; (try dsimp only at h1 h4); exact Nat.lt_of_lt_of_le (imMu (Nat.le_of_lt h2) h3.1 (.inr ⟨h2, by have h6 := HLE.out; omega⟩)) (Nat.le_of_lt_succ h1)) ⟨fun h => absurd (h.symm.trans HK9.out) (by decide), fun _ => by have h6 := HLE.out; omega⟩ HE2.out.1 HND.out h)
        try dsimp only at IO
        rw [show (((d1 + 1) : Nat) : Int) = (d1 : Int) + 1 from rfl] at IO
        replace IO := am IO
        have hwd : wrap64 ((d1 : Int) + 1) = (d1 : Int) + 1 := by have h6 := HLE.out; unfold wrap64; omega
        have hwdk : IntKind.i64.wrap ((d1 : Int) + 1) = (d1 : Int) + 1 := (i64_w _).trans hwd
        go_wp2_with (first | ((with_reducible refine gc 54 rfl ?_); refine gl_ (some 98) rfl rfl Try.func54 #[.pointer (some ⟨gG, 0, none⟩), .int .i64 (node : Int), .int .i64 ((d1 : Int) + 1), .int .i64 (e : Int)] rfl rfl ?_; (with_reducible refine (IO.out _ _ ⟨HB.out, HG.out, HN.out, HZ.out, D_G_Z.out, D_N_Z.out⟩).mono ?_); rintro e w2 ⟨PE8, AS, cS, rfl, ⟨hb_, hg_, hn_, he_, hge_, hne_⟩, hcl_, hF_, hm1_, hm2_, hkk_⟩; refine ⟨_, rfl, ?_⟩; dsimp only at hb_ hg_ hn_ he_ hge_ hne_ hcl_ hF_ hkk_; have D_Q_E8 := ax hm2_ HQ.out.lt D_Q_Z; have D_X1_E8 := ax hm2_ HX1.out.lt D_X1_Z; have D_X2_E8 := ax hm2_ HX2.out.lt D_X2_Z; have D_O_E8 := ax hm2_ HO.out.lt D_O_Z; replace HQ := am (HQ.out.step hkk_ (imNotK D_Q_Z.out HZ.out.1)); replace HX1 := am (HX1.out.step hkk_ (imNotK D_X1_Z.out HZ.out.1)); replace HX2 := am (HX2.out.step hkk_ (imNotK D_X2_Z.out HZ.out.1)); replace HO := am (HO.out.step hkk_ (imNotK D_O_Z.out HZ.out.1)); replace HR := ns_ hkk_ HR D_R_K.out; replace HM1 := hm1w HM1 hm1_; replace HM2 := hm2w HM2 hm2_ HK; have HS := am (imLN (base := w.heap.size) (rowOf_len' HL.out _) hcl_ hF_ (fun k h => he_.lt k h.1)); have D_S_K := drk PE8 gE gR; have D_S_O := dro gE gR D_O_E8; replace HK := kl HK hkk_; replace HB := am hb_; replace HG := am hg_; replace HN := am hn_; have HE8 := am he_; have D_G_E8 := am hge_; have D_N_E8 := am hne_; clear hb_ hg_ hn_ he_ hge_ hne_ hcl_ hF_ hm1_ hm2_ hkk_ HZ; replace jG := HG.out.c5; replace jX1 := HX1.out.c6; replace jX2 := HX2.out.c3) | ((with_reducible refine gc 53 rfl ?_); refine gl_ (some 99) rfl rfl Try.func53 #[.slice (some ⟨gO, 0, none⟩) L cO, .slice AS L cS] rfl rfl ?_; (with_reducible refine (im_join w _ PO _ gO L cO T.size _ _ _ _ HL.out HT.out HB.out HO.out HS.out D_S_O.out).mono ?_); rintro e w2 ⟨rfl, ho_, hb_, hk_⟩; refine ⟨_, rfl, ?_⟩; replace HG := ss hk_ HG D_G_O.out; replace HN := ns_ hk_ HN D_N_O.out; replace HQ := ns_ hk_ HQ D_Q_O.out; replace HX1 := ss hk_ HX1 D_X1_O.out; replace HX2 := ss hk_ HX2 D_X2_O.out; replace HR := ns_ hk_ HR D_R_O.out; replace HE8 := am (HE8.out.step hk_ (apart_symm D_O_E8.out)); replace HS := ns_ hk_ HS D_S_O.out; replace HK := kr HK hk_ RRO; replace HB := am hb_; replace HO := am ho_; clear ho_ hb_ hk_; replace jG := HG.out.c5; replace jX1 := HX1.out.c6; replace jX2 := HX2.out.c3))
        go_roundg k1
        case measure => omega
        case rel => exact ⟨e + 1, _, by first | rfl | exact congrArg (Value.int .i64) hwe, ⟨HE2.out.2⟩, HB, HG, HN, HQ, HX1, HX2, ⟨by rw [accK_yes _ _ _ _ (by simp [HBT.out, HGT.out])]; exact HO.out⟩, HE8, HR, ⟨D_G_E8.out⟩, ⟨D_N_E8.out⟩, ⟨D_Q_E8.out⟩, ⟨D_X1_E8.out⟩, ⟨D_X2_E8.out⟩, ⟨D_O_E8.out⟩, HK, HM1, HM2⟩
       have g1 : decide ((i : Int) < (e : Int)) = false := decide_eq_false (by omega)
       have g2 : decide (i < e) = false := decide_eq_false hgt
       have HGT := am hgt
       clear hgt
       go_wp2
       go_roundg k1
       case measure => omega
       case rel => exact rmP3
      have hel : e = L := by have := HX.out; omega
      have z2d : decide ((e : Int) < (L : Int)) = false := decide_eq_false (by omega)
      have z3d : decide (e < L) = false := decide_eq_false hlt
      have HEL := am (show e = T.size + 1 from hel.trans HL.out)
      clear hel hlt
      have hrow_ : rowOf T.size (accK (fun j => if j = i then true else false) (fun q => mat (imTx T) T.size y i q && decide (i < q)) (onw (imTx T) T.size (⟨f0, (F1 : Int), f2, f3, l⟩ : S31) (d1 + 1)) e) = imOn T (⟨f0, (F1 : Int), f2, f3, l⟩ : S31) d1 i := by rw [HEL.out]; exact imMore (imTx T) T.size f0 (F1 : Int) f2 f3 l d1 i y HK9.out (by rw [Int.toNat_natCast]; exact HDF.out) (.inl CM.out) HY.out
      replace HO := am (hrow_ ▸ HO.out)
      clear hrow_
      go_wp2
      go_meet
      case rel => exact rmP2
    have CM := am cm
    have cmb : decide (f2 < 0) = false := decide_eq_false cm
    obtain rfl : d = d1 := (HSAME.out (.inr cm)).symm
    clear cm hfm hd9
    by_cases hdf : d < F1
    ·
     have e1 : decide ((d : Int) < (F1 : Int)) = true := decide_eq_true (by omega)
     have e1n := decide_eq_true hdf
     have HDF := am hdf
     have HDD := am (show d = d from rfl)
     clear hdf
     obtain ⟨y, hy⟩ : ∃ y, l[0]? = some y := ⟨_, List.getElem?_eq_getElem (by have := HL1.out; omega)⟩
     obtain ⟨pk, ks2, hpk, hpn⟩ := HKID.out 0 y hy
     try dsimp only at hpk
     have HFY := am (HFF.out y (List.mem_of_getElem? hy) pk ks2 i)
     have HPN := am hpn
     have HPK := am hpk
     have hkq : 0 < ks.length := (List.getElem?_eq_some_iff.1 hpk).1
     have HKQ := am hkq
     have v1_ := il hkq
     have v2_ := eq_true hkq
     have v0_ := zn 0
     clear hpk hpn hkq
     go_upto_region 27 with (fail)
     obtain ⟨ad5, eA5, hk5⟩ := im_atI HQ.out 0 HKQ.out HPK.out
     rw [show ad5.add 0 = ad5 from rfl] at hk5
     go_wp2_with (first | ((with_reducible refine gc 38 rfl ?_); refine gl_ (some 157) rfl rfl Try.func38 #[.pointer (some ⟨gG, 0, none⟩), .int .i64 (pk : Int), .int .i64 (i : Int)] rfl rfl ?_; (with_reducible refine (HFY.out _ _ HPN.out HI.out ⟨HB.out, HG.out, HN.out, HE.out, D_G_E.out, D_N_E.out⟩).mono ?_); rintro e w2 ⟨PE9, AR, cR, rfl, ⟨hb_, hg_, hn_, he_, hge_, hne_⟩, hcl_, hF_, hm1_, hm2_, hkk_⟩; refine ⟨_, rfl, ?_⟩; dsimp only at hb_ hg_ hn_ he_ hge_ hne_ hcl_ hF_ hkk_; have D_Q_E9 := ax hm2_ HQ.out.lt D_Q_E; have D_X1_E9 := ay hm2_ HX1.out.lt D_E_X1; have D_X2_E9 := ay hm2_ HX2.out.lt D_E_X2; have D_O_E9 := ay hm2_ HO.out.lt D_E_O; replace HQ := am (HQ.out.step hkk_ (imNotK D_Q_E.out HE.out.1)); replace HX1 := am (HX1.out.step hkk_ (imNotK (apart_symm D_E_X1.out) HE.out.1)); replace HX2 := am (HX2.out.step hkk_ (imNotK (apart_symm D_E_X2.out) HE.out.1)); replace HO := am (HO.out.step hkk_ (imNotK (apart_symm D_E_O.out) HE.out.1)); replace HM1 := hm1w HM1 hm1_; replace HM2 := hm2w HM2 hm2_ HK; have HR := am (imLN (base := w.heap.size) (rowOf_len' HL.out _) hcl_ hF_ (fun k h => he_.lt k h.1)); have D_R_K := drk PE9 gE gR; have D_R_O := dro gE gR D_O_E9; replace HK := kl HK hkk_; replace HB := am hb_; replace HG := am hg_; replace HN := am hn_; have HE9 := am he_; have D_G_E9 := am hge_; have D_N_E9 := am hne_; clear hb_ hg_ hn_ he_ hge_ hne_ hcl_ hF_ hm1_ hm2_ hkk_ HE; replace jG := HG.out.c5; replace jX1 := HX1.out.c6; replace jX2 := HX2.out.c3))
     obtain ⟨adR, eR_, _⟩ := im_atN HR.out 0 (by have := HL.out; omega)
     subst eR_
     have HY := am hy
     clear hy hk5
     go_loopg [159] (L + 1) (fun kq v159 w' => ∃ (e : Nat) (PE1 : Nat → Prop), v159 = .int .i64 (e : Int) ∧ Aside0 (e + kq = L + 1 ∧ 0 < kq) ∧ Aside0 (Below w.heap.size w w') ∧ Aside0 (LB w' PG gG 74 #[.string T, .slice (some adN) ns.length DN, .map (some gE), .map (some gR), VG]) ∧ Aside0 (LN kNA 76 w' w.heap.size PN (.slice (some adN) ns.length DN) ns) ∧ Aside0 (LN (Kd.int .i64) 3 w' w.heap.size PN (.slice A5 ks.length c5) ks) ∧ Aside0 (LB w' PX1 gX1 76 #[.int .i64 f0, .int .i64 (F1 : Int), .int .i64 f2, .string f3, .slice A4 l.length c4, .slice A5 ks.length c5]) ∧ Aside0 (LB w' PX2 gX2 101 #[.int .i64 (node : Int), .int .i64 (d : Int), .int .i64 (i : Int)]) ∧ Aside0 (LR Kd.bool 4 w' w.heap.size PO (.slice (some ⟨gO, 0, none⟩) L cO) (rowOf T.size (accK (fun _ => false) (fun q => mat (imTx T) T.size y i q) (onw (imTx T) T.size (⟨f0, (F1 : Int), f2, f3, l⟩ : S31) (d + 1)) e))) ∧ Aside0 (imK ⟨PG, PN, gG, gE, gR, some adN, DN, T, L, ns⟩ w' PE1) ∧ Aside0 (LN Kd.bool 4 w' w.heap.size (fun k => PE9 k ∧ k ≠ gE ∧ k ≠ gR) (.slice (some adR) L cR) (rowOf T.size (mat (imTx T) T.size y i))) ∧ Aside0 (∀ k, PG k → ¬ PE1 k) ∧ Aside0 (∀ k, PN k → ¬ PE1 k) ∧ Aside0 (∀ k, PN k → ¬ PE1 k) ∧ Aside0 (∀ k, PX1 k → ¬ PE1 k) ∧ Aside0 (∀ k, PX2 k → ¬ PE1 k) ∧ Aside0 (∀ k, PO k → ¬ PE1 k) ∧ Aside0 (Kept ws w' (fun k_ => k_ = gE ∨ k_ = gR)) ∧ Aside0 (∀ k, PE k → PE1 k) ∧ Aside0 (∀ k, PE1 k → PE k ∨ ws.heap.size ≤ k))
     case atStart => exact ⟨0, _, rfl, ⟨by omega, by omega⟩, HB, HG, HN, HQ, HX1, HX2, ⟨by rw [accK_zero]; exact HO.out⟩, HE9, HR, ⟨D_G_E9.out⟩, ⟨D_N_E9.out⟩, ⟨D_Q_E9.out⟩, ⟨D_X1_E9.out⟩, ⟨D_X2_E9.out⟩, ⟨D_O_E9.out⟩, HK, HM1, HM2⟩
     case round =>
      clear HB HK HM1 HM2 HG HN HQ HX1 HX2 HO HE9 HR
      clear D_G_E9 D_N_E9 D_Q_E9 D_X1_E9 D_X2_E9 D_O_E9
      try clear jG
      try clear jX1
      try clear jX2
      obtain ⟨e, PZ, rfl, HX, HB, HG, HN, HQ, HX1, HX2, HO, HZ, HR, D_G_Z, D_N_Z, D_Q_Z, D_X1_Z, D_X2_Z, D_O_Z, HK, HM1, HM2⟩ := hrel
      replace jG := HG.out.c5
      replace jX1 := HX1.out.c6
      replace jX2 := HX2.out.c3
      by_cases hlt : e < L
      ·
       obtain ⟨k1, rfl⟩ : ∃ k_, gk = k_ + 1 := ⟨gk - 1, by have := HX.out; omega⟩
       have HE2 := am (show e ≤ T.size ∧ e + 1 + k1 = L + 1 ∧ 0 < k1 from by have h1 := HX.out; have h2 := HL.out; exact ⟨by omega, by omega, by omega⟩)
       obtain ⟨_, eR_, hr0⟩ := im_atN HR.out e hlt
       cases eR_
       rw [rowOf_getD _ _ _ HE2.out.1] at hr0
       have hwe : wrap64 ((e : Int) + 1) = ((e + 1 : Nat) : Int) := by have := HE2.out; have := HT.out; unfold wrap64; omega
       have z1 := zn e
       have z2 := il hlt
       have z2d := dl hlt
       have z3 := eq_true hlt
       have z3d := decide_eq_true hlt
       clear hlt
       rcases hb_ : mat (imTx T) T.size y i e with _ | _
       ·
        rw [hb_] at hr0
        have HBF := am hb_
        clear hb_
        go_wp2
        go_roundg k1
        case measure => omega
        case rel => exact rmP1
       rw [hb_] at hr0
       have HBT := am hb_
       clear hb_
       have HGT := am (show i ≤ e from ((mat_le (imTx T) T.size _).1 y (Nat.le_refl _) i e HBT.out))
       have IO := (fun (ws' : World) (PE' : Nat → Prop) h => IH.out node (d + 1) e ks ws' PE' (by have h1 := HMU.out; have h2 := HGT.out; have h3 := HE2.out; have h4 := HI.out; (try dsimp only at h1 h4); exact Nat.lt_of_lt_of_le (imMu h2 h3.1 (.inl ⟨by have h5 := HDD.out; omega, by have h5 := HDD.out; have h6 := HDF.out; have h7 := HF1.out; omega⟩)) (Nat.le_of_lt_succ h1)) ⟨fun h => absurd (h.symm.trans HK9.out) (by decide), fun _ => by have h6 := HDF.out; have h7 := HF1.out; omega⟩ HE2.out.1 HND.out h)
       try dsimp only at IO
       rw [show (((d + 1) : Nat) : Int) = (d : Int) + 1 from rfl] at IO
       replace IO := am IO
       have hwd : wrap64 ((d : Int) + 1) = (d : Int) + 1 := by have h6 := HDF.out; have h7 := HF1.out; unfold wrap64; omega
       have hwdk : IntKind.i64.wrap ((d : Int) + 1) = (d : Int) + 1 := (i64_w _).trans hwd
       go_wp2_with (first | ((with_reducible refine gc 54 rfl ?_); refine gl_ (some 171) rfl rfl Try.func54 #[.pointer (some ⟨gG, 0, none⟩), .int .i64 (node : Int), .int .i64 ((d : Int) + 1), .int .i64 (e : Int)] rfl rfl ?_; (with_reducible refine (IO.out _ _ ⟨HB.out, HG.out, HN.out, HZ.out, D_G_Z.out, D_N_Z.out⟩).mono ?_); rintro e w2 ⟨PE10, AS, cS, rfl, ⟨hb_, hg_, hn_, he_, hge_, hne_⟩, hcl_, hF_, hm1_, hm2_, hkk_⟩; refine ⟨_, rfl, ?_⟩; dsimp only at hb_ hg_ hn_ he_ hge_ hne_ hcl_ hF_ hkk_; have D_Q_E10 := ax hm2_ HQ.out.lt D_Q_Z; have D_X1_E10 := ax hm2_ HX1.out.lt D_X1_Z; have D_X2_E10 := ax hm2_ HX2.out.lt D_X2_Z; have D_O_E10 := ax hm2_ HO.out.lt D_O_Z; replace HQ := am (HQ.out.step hkk_ (imNotK D_Q_Z.out HZ.out.1)); replace HX1 := am (HX1.out.step hkk_ (imNotK D_X1_Z.out HZ.out.1)); replace HX2 := am (HX2.out.step hkk_ (imNotK D_X2_Z.out HZ.out.1)); replace HO := am (HO.out.step hkk_ (imNotK D_O_Z.out HZ.out.1)); replace HR := ns_ hkk_ HR D_R_K.out; replace HM1 := hm1w HM1 hm1_; replace HM2 := hm2w HM2 hm2_ HK; have HS := am (imLN (base := w.heap.size) (rowOf_len' HL.out _) hcl_ hF_ (fun k h => he_.lt k h.1)); have D_S_K := drk PE10 gE gR; have D_S_O := dro gE gR D_O_E10; replace HK := kl HK hkk_; replace HB := am hb_; replace HG := am hg_; replace HN := am hn_; have HE10 := am he_; have D_G_E10 := am hge_; have D_N_E10 := am hne_; clear hb_ hg_ hn_ he_ hge_ hne_ hcl_ hF_ hm1_ hm2_ hkk_ HZ; replace jG := HG.out.c5; replace jX1 := HX1.out.c6; replace jX2 := HX2.out.c3) | ((with_reducible refine gc 53 rfl ?_); refine gl_ (some 172) rfl rfl Try.func53 #[.slice (some ⟨gO, 0, none⟩) L cO, .slice AS L cS] rfl rfl ?_; (with_reducible refine (im_join w _ PO _ gO L cO T.size _ _ _ _ HL.out HT.out HB.out HO.out HS.out D_S_O.out).mono ?_); rintro e w2 ⟨rfl, ho_, hb_, hk_⟩; refine ⟨_, rfl, ?_⟩; replace HG := ss hk_ HG D_G_O.out; replace HN := ns_ hk_ HN D_N_O.out; replace HQ := ns_ hk_ HQ D_Q_O.out; replace HX1 := ss hk_ HX1 D_X1_O.out; replace HX2 := ss hk_ HX2 D_X2_O.out; replace HR := ns_ hk_ HR D_R_O.out; replace HE10 := am (HE10.out.step hk_ (apart_symm D_O_E10.out)); replace HS := ns_ hk_ HS D_S_O.out; replace HK := kr HK hk_ RRO; replace HB := am hb_; replace HO := am ho_; clear ho_ hb_ hk_; replace jG := HG.out.c5; replace jX1 := HX1.out.c6; replace jX2 := HX2.out.c3))
       go_roundg k1
       case measure => omega
       case rel => exact ⟨e + 1, _, by first | rfl | exact congrArg (Value.int .i64) hwe, ⟨HE2.out.2⟩, HB, HG, HN, HQ, HX1, HX2, ⟨by rw [accK_yes _ _ _ _ (by simp [HBT.out])]; exact HO.out⟩, HE10, HR, ⟨D_G_E10.out⟩, ⟨D_N_E10.out⟩, ⟨D_Q_E10.out⟩, ⟨D_X1_E10.out⟩, ⟨D_X2_E10.out⟩, ⟨D_O_E10.out⟩, HK, HM1, HM2⟩
      have hel : e = L := by have := HX.out; omega
      have z2d : decide ((e : Int) < (L : Int)) = false := decide_eq_false (by omega)
      have z3d : decide (e < L) = false := decide_eq_false hlt
      have HEL := am (show e = T.size + 1 from hel.trans HL.out)
      clear hel hlt
      have hrow_ : rowOf T.size (accK (fun _ => false) (fun q => mat (imTx T) T.size y i q) (onw (imTx T) T.size (⟨f0, (F1 : Int), f2, f3, l⟩ : S31) (d + 1)) e) = imOn T (⟨f0, (F1 : Int), f2, f3, l⟩ : S31) d i := by rw [HEL.out]; exact imMust (imTx T) T.size f0 (F1 : Int) f2 f3 l d i y HK9.out (by rw [Int.toNat_natCast]; exact HDF.out) HY.out
      replace HO := am (hrow_ ▸ HO.out)
      clear hrow_
      go_wp2
      go_meet
      case rel => exact rmP2
    have e1 : decide ((d : Int) < (F1 : Int)) = false := decide_eq_false (by omega)
    have e1n : decide (d < F1) = false := decide_eq_false hdf
    have HDF := am hdf
    clear hdf
    by_cases hdm : (d : Int) < f2
    ·
     have e2 : decide ((d : Int) < f2) = true := decide_eq_true hdm
     have HDM := am hdm
     have HLE := am (show d ≤ 20 by have h1 := HFM.out; have h2 := CM.out; omega)
     clear hdm
     obtain ⟨y, hy⟩ : ∃ y, l[0]? = some y := ⟨_, List.getElem?_eq_getElem (by have := HL1.out; omega)⟩
     obtain ⟨pk, ks2, hpk, hpn⟩ := HKID.out 0 y hy
     try dsimp only at hpk
     have HFY := am (HFF.out y (List.mem_of_getElem? hy) pk ks2 i)
     have HPN := am hpn
     have HPK := am hpk
     have hkq : 0 < ks.length := (List.getElem?_eq_some_iff.1 hpk).1
     have HKQ := am hkq
     have v1_ := il hkq
     have v2_ := eq_true hkq
     have v0_ := zn 0
     clear hpk hpn hkq
     go_upto_region 9 with (fail)
     obtain ⟨hy0, hy1⟩ := im_at HO.out i (by have := HI.out; have := HL.out; omega)
     have z1 := zn i
     have z2 := eq_true (show (i : Int) < (L : Int) by have := HI.out; have := HL.out; omega)
     have z3 := eq_true (show i < L by have := HI.out; have := HL.out; omega)
     go_upto_region 11 with (first | ((with_reducible refine gate_store (t := 4) (p := 61) rfl ?_); refine im_put1 HO.out HB.out i (by have := HI.out; have := HL.out; omega) true rfl (t := 4) (p := 61) rfl rfl ?hr_22 ?_; (case hr_22 => first | (go_simp; done) | (go_simp; simp only [World.setCells, Nat.reduceAdd, Nat.zero_add]; done)); intro w2 hx hk hb; replace HG := ss hk HG D_G_O.out; replace HN := ns_ hk HN D_N_O.out; replace HE := am (HE.out.step hk D_E_O.out); replace HQ := ns_ hk HQ D_Q_O.out; replace HX1 := ss hk HX1 D_X1_O.out; replace HX2 := ss hk HX2 D_X2_O.out; replace HK := kr HK hk RRO; replace HB := am hb; rw [rowOf_set] at hx; replace HO := am hx; clear hk hx hb; (try clear hy0 hy1); replace jG := HG.out.c5; replace jX1 := HX1.out.c6; replace jX2 := HX2.out.c3))
     try clear z1 z2 z3
     obtain ⟨ad5, eA5, hk5⟩ := im_atI HQ.out 0 HKQ.out HPK.out
     rw [show ad5.add 0 = ad5 from rfl] at hk5
     go_wp2_with (first | ((with_reducible refine gc 38 rfl ?_); refine gl_ (some 79) rfl rfl Try.func38 #[.pointer (some ⟨gG, 0, none⟩), .int .i64 (pk : Int), .int .i64 (i : Int)] rfl rfl ?_; (with_reducible refine (HFY.out _ _ HPN.out HI.out ⟨HB.out, HG.out, HN.out, HE.out, D_G_E.out, D_N_E.out⟩).mono ?_); rintro e w2 ⟨PE11, AR, cR, rfl, ⟨hb_, hg_, hn_, he_, hge_, hne_⟩, hcl_, hF_, hm1_, hm2_, hkk_⟩; refine ⟨_, rfl, ?_⟩; dsimp only at hb_ hg_ hn_ he_ hge_ hne_ hcl_ hF_ hkk_; have D_Q_E11 := ax hm2_ HQ.out.lt D_Q_E; have D_X1_E11 := ay hm2_ HX1.out.lt D_E_X1; have D_X2_E11 := ay hm2_ HX2.out.lt D_E_X2; have D_O_E11 := ay hm2_ HO.out.lt D_E_O; replace HQ := am (HQ.out.step hkk_ (imNotK D_Q_E.out HE.out.1)); replace HX1 := am (HX1.out.step hkk_ (imNotK (apart_symm D_E_X1.out) HE.out.1)); replace HX2 := am (HX2.out.step hkk_ (imNotK (apart_symm D_E_X2.out) HE.out.1)); replace HO := am (HO.out.step hkk_ (imNotK (apart_symm D_E_O.out) HE.out.1)); replace HM1 := hm1w HM1 hm1_; replace HM2 := hm2w HM2 hm2_ HK; have HR := am (imLN (base := w.heap.size) (rowOf_len' HL.out _) hcl_ hF_ (fun k h => he_.lt k h.1)); have D_R_K := drk PE11 gE gR; have D_R_O := dro gE gR D_O_E11; replace HK := kl HK hkk_; replace HB := am hb_; replace HG := am hg_; replace HN := am hn_; have HE11 := am he_; have D_G_E11 := am hge_; have D_N_E11 := am hne_; clear hb_ hg_ hn_ he_ hge_ hne_ hcl_ hF_ hm1_ hm2_ hkk_ HE; replace jG := HG.out.c5; replace jX1 := HX1.out.c6; replace jX2 := HX2.out.c3))
     obtain ⟨adR, eR_, _⟩ := im_atN HR.out 0 (by have := HL.out; omega)
     subst eR_
     have HY := am hy
     clear hy hk5
     go_loopg [81] (L + 1) (fun kq v81 w' => ∃ (e : Nat) (PE1 : Nat → Prop), v81 = .int .i64 (e : Int) ∧ Aside0 (e + kq = L + 1 ∧ 0 < kq) ∧ Aside0 (Below w.heap.size w w') ∧ Aside0 (LB w' PG gG 74 #[.string T, .slice (some adN) ns.length DN, .map (some gE), .map (some gR), VG]) ∧ Aside0 (LN kNA 76 w' w.heap.size PN (.slice (some adN) ns.length DN) ns) ∧ Aside0 (LN (Kd.int .i64) 3 w' w.heap.size PN (.slice A5 ks.length c5) ks) ∧ Aside0 (LB w' PX1 gX1 76 #[.int .i64 f0, .int .i64 (F1 : Int), .int .i64 f2, .string f3, .slice A4 l.length c4, .slice A5 ks.length c5]) ∧ Aside0 (LB w' PX2 gX2 101 #[.int .i64 (node : Int), .int .i64 (d : Int), .int .i64 (i : Int)]) ∧ Aside0 (LR Kd.bool 4 w' w.heap.size PO (.slice (some ⟨gO, 0, none⟩) L cO) (rowOf T.size (accK (fun j => if j = i then true else false) (fun q => mat (imTx T) T.size y i q && decide (i < q)) (onw (imTx T) T.size (⟨f0, (F1 : Int), f2, f3, l⟩ : S31) (d + 1)) e))) ∧ Aside0 (imK ⟨PG, PN, gG, gE, gR, some adN, DN, T, L, ns⟩ w' PE1) ∧ Aside0 (LN Kd.bool 4 w' w.heap.size (fun k => PE11 k ∧ k ≠ gE ∧ k ≠ gR) (.slice (some adR) L cR) (rowOf T.size (mat (imTx T) T.size y i))) ∧ Aside0 (∀ k, PG k → ¬ PE1 k) ∧ Aside0 (∀ k, PN k → ¬ PE1 k) ∧ Aside0 (∀ k, PN k → ¬ PE1 k) ∧ Aside0 (∀ k, PX1 k → ¬ PE1 k) ∧ Aside0 (∀ k, PX2 k → ¬ PE1 k) ∧ Aside0 (∀ k, PO k → ¬ PE1 k) ∧ Aside0 (Kept ws w' (fun k_ => k_ = gE ∨ k_ = gR)) ∧ Aside0 (∀ k, PE k → PE1 k) ∧ Aside0 (∀ k, PE1 k → PE k ∨ ws.heap.size ≤ k))
     case atStart => exact ⟨0, _, rfl, ⟨by omega, by omega⟩, HB, HG, HN, HQ, HX1, HX2, ⟨by rw [accK_zero]; exact HO.out⟩, HE11, HR, ⟨D_G_E11.out⟩, ⟨D_N_E11.out⟩, ⟨D_Q_E11.out⟩, ⟨D_X1_E11.out⟩, ⟨D_X2_E11.out⟩, ⟨D_O_E11.out⟩, HK, HM1, HM2⟩
     case round =>
      clear HB HK HM1 HM2 HG HN HQ HX1 HX2 HO HE11 HR
      clear D_G_E11 D_N_E11 D_Q_E11 D_X1_E11 D_X2_E11 D_O_E11
      try clear jG
      try clear jX1
      try clear jX2
      obtain ⟨e, PZ, rfl, HX, HB, HG, HN, HQ, HX1, HX2, HO, HZ, HR, D_G_Z, D_N_Z, D_Q_Z, D_X1_Z, D_X2_Z, D_O_Z, HK, HM1, HM2⟩ := hrel
      replace jG := HG.out.c5
      replace jX1 := HX1.out.c6
      replace jX2 := HX2.out.c3
      by_cases hlt : e < L
      ·
       obtain ⟨k1, rfl⟩ : ∃ k_, gk = k_ + 1 := ⟨gk - 1, by have := HX.out; omega⟩
       have HE2 := am (show e ≤ T.size ∧ e + 1 + k1 = L + 1 ∧ 0 < k1 from by have h1 := HX.out; have h2 := HL.out; exact ⟨by omega, by omega, by omega⟩)
       obtain ⟨_, eR_, hr0⟩ := im_atN HR.out e hlt
       cases eR_
       rw [rowOf_getD _ _ _ HE2.out.1] at hr0
       have hwe : wrap64 ((e : Int) + 1) = ((e + 1 : Nat) : Int) := by have := HE2.out; have := HT.out; unfold wrap64; omega
       have z1 := zn e
       have z2 := il hlt
       have z2d := dl hlt
       have z3 := eq_true hlt
       have z3d := decide_eq_true hlt
       clear hlt
       rcases hb_ : mat (imTx T) T.size y i e with _ | _
       ·
        rw [hb_] at hr0
        have HBF := am hb_
        clear hb_
        go_wp2
        go_roundg k1
        case measure => omega
        case rel => exact rmP1
       rw [hb_] at hr0
       have HBT := am hb_
       clear hb_
       by_cases hgt : i < e
       ·
        have g1 : decide ((i : Int) < (e : Int)) = true := decide_eq_true (Int.ofNat_lt.2 hgt)
        have g2 := decide_eq_true hgt
        have HGT := am hgt
        clear hgt
        have IO := (fun (ws' : World) (PE' : Nat → Prop) h => IH.out node (d + 1) e ks ws' PE' (by have h1 := HMU.out; have h2 := HGT.out; have h3 := HE2.out; have h4 := HI.out; (try dsimp only at h1 h4); exact Nat.lt_of_lt_of_le (imMu (Nat.le_of_lt h2) h3.1 (.inr ⟨h2, by have h6 := HLE.out; omega⟩)) (Nat.le_of_lt_succ h1)) ⟨fun h => absurd (h.symm.trans HK9.out) (by decide), fun _ => by have h6 := HLE.out; omega⟩ HE2.out.1 HND.out h)
        try dsimp only at IO
        rw [show (((d + 1) : Nat) : Int) = (d : Int) + 1 from rfl] at IO
        replace IO := am IO
        have hwd : wrap64 ((d : Int) + 1) = (d : Int) + 1 := by have h6 := HLE.out; unfold wrap64; omega
        have hwdk : IntKind.i64.wrap ((d : Int) + 1) = (d : Int) + 1 := (i64_w _).trans hwd
        go_wp2_with (first | ((with_reducible refine gc 54 rfl ?_); refine gl_ (some 98) rfl rfl Try.func54 #[.pointer (some ⟨gG, 0, none⟩), .int .i64 (node : Int), .int .i64 ((d : Int) + 1), .int .i64 (e : Int)] rfl rfl ?_; (with_reducible refine (IO.out _ _ ⟨HB.out, HG.out, HN.out, HZ.out, D_G_Z.out, D_N_Z.out⟩).mono ?_); rintro e w2 ⟨PE12, AS, cS, rfl, ⟨hb_, hg_, hn_, he_, hge_, hne_⟩, hcl_, hF_, hm1_, hm2_, hkk_⟩; refine ⟨_, rfl, ?_⟩; dsimp only at hb_ hg_ hn_ he_ hge_ hne_ hcl_ hF_ hkk_; have D_Q_E12 := ax hm2_ HQ.out.lt D_Q_Z; have D_X1_E12 := ax hm2_ HX1.out.lt D_X1_Z; have D_X2_E12 := ax hm2_ HX2.out.lt D_X2_Z; have D_O_E12 := ax hm2_ HO.out.lt D_O_Z; replace HQ := am (HQ.out.step hkk_ (imNotK D_Q_Z.out HZ.out.1)); replace HX1 := am (HX1.out.step hkk_ (imNotK D_X1_Z.out HZ.out.1)); replace HX2 := am (HX2.out.step hkk_ (imNotK D_X2_Z.out HZ.out.1)); replace HO := am (HO.out.step hkk_ (imNotK D_O_Z.out HZ.out.1)); replace HR := ns_ hkk_ HR D_R_K.out; replace HM1 := hm1w HM1 hm1_; replace HM2 := hm2w HM2 hm2_ HK; have HS := am (imLN (base := w.heap.size) (rowOf_len' HL.out _) hcl_ hF_ (fun k h => he_.lt k h.1)); have D_S_K := drk PE12 gE gR; have D_S_O := dro gE gR D_O_E12; replace HK := kl HK hkk_; replace HB := am hb_; replace HG := am hg_; replace HN := am hn_; have HE12 := am he_; have D_G_E12 := am hge_; have D_N_E12 := am hne_; clear hb_ hg_ hn_ he_ hge_ hne_ hcl_ hF_ hm1_ hm2_ hkk_ HZ; replace jG := HG.out.c5; replace jX1 := HX1.out.c6; replace jX2 := HX2.out.c3) | ((with_reducible refine gc 53 rfl ?_); refine gl_ (some 99) rfl rfl Try.func53 #[.slice (some ⟨gO, 0, none⟩) L cO, .slice AS L cS] rfl rfl ?_; (with_reducible refine (im_join w _ PO _ gO L cO T.size _ _ _ _ HL.out HT.out HB.out HO.out HS.out D_S_O.out).mono ?_); rintro e w2 ⟨rfl, ho_, hb_, hk_⟩; refine ⟨_, rfl, ?_⟩; replace HG := ss hk_ HG D_G_O.out; replace HN := ns_ hk_ HN D_N_O.out; replace HQ := ns_ hk_ HQ D_Q_O.out; replace HX1 := ss hk_ HX1 D_X1_O.out; replace HX2 := ss hk_ HX2 D_X2_O.out; replace HR := ns_ hk_ HR D_R_O.out; replace HE12 := am (HE12.out.step hk_ (apart_symm D_O_E12.out)); replace HS := ns_ hk_ HS D_S_O.out; replace HK := kr HK hk_ RRO; replace HB := am hb_; replace HO := am ho_; clear ho_ hb_ hk_; replace jG := HG.out.c5; replace jX1 := HX1.out.c6; replace jX2 := HX2.out.c3))
        go_roundg k1
        case measure => omega
        case rel => exact ⟨e + 1, _, by first | rfl | exact congrArg (Value.int .i64) hwe, ⟨HE2.out.2⟩, HB, HG, HN, HQ, HX1, HX2, ⟨by rw [accK_yes _ _ _ _ (by simp [HBT.out, HGT.out])]; exact HO.out⟩, HE12, HR, ⟨D_G_E12.out⟩, ⟨D_N_E12.out⟩, ⟨D_Q_E12.out⟩, ⟨D_X1_E12.out⟩, ⟨D_X2_E12.out⟩, ⟨D_O_E12.out⟩, HK, HM1, HM2⟩
       have g1 : decide ((i : Int) < (e : Int)) = false := decide_eq_false (by omega)
       have g2 : decide (i < e) = false := decide_eq_false hgt
       have HGT := am hgt
       clear hgt
       go_wp2
       go_roundg k1
       case measure => omega
       case rel => exact rmP3
      have hel : e = L := by have := HX.out; omega
      have z2d : decide ((e : Int) < (L : Int)) = false := decide_eq_false (by omega)
      have z3d : decide (e < L) = false := decide_eq_false hlt
      have HEL := am (show e = T.size + 1 from hel.trans HL.out)
      clear hel hlt
      have hrow_ : rowOf T.size (accK (fun j => if j = i then true else false) (fun q => mat (imTx T) T.size y i q && decide (i < q)) (onw (imTx T) T.size (⟨f0, (F1 : Int), f2, f3, l⟩ : S31) (d + 1)) e) = imOn T (⟨f0, (F1 : Int), f2, f3, l⟩ : S31) d i := by rw [HEL.out]; exact imMore (imTx T) T.size f0 (F1 : Int) f2 f3 l d i y HK9.out (by rw [Int.toNat_natCast]; exact HDF.out) (.inr HDM.out) HY.out
      replace HO := am (hrow_ ▸ HO.out)
      clear hrow_
      go_wp2
      go_meet
      case rel => exact rmP2
    have e2 : decide ((d : Int) < f2) = false := decide_eq_false hdm
    have HDM := am hdm
    clear hdm
    go_upto_region 9 with (fail)
    obtain ⟨hy0, hy1⟩ := im_at HO.out i (by have := HI.out; have := HL.out; omega)
    have z1 := zn i
    have z2 := eq_true (show (i : Int) < (L : Int) by have := HI.out; have := HL.out; omega)
    have z3 := eq_true (show i < L by have := HI.out; have := HL.out; omega)
    go_wp2_with (first | ((with_reducible refine gate_store (t := 4) (p := 61) rfl ?_); refine im_put1 HO.out HB.out i (by have := HI.out; have := HL.out; omega) true rfl (t := 4) (p := 61) rfl rfl ?hr_26 ?_; (case hr_26 => first | (go_simp; done) | (go_simp; simp only [World.setCells, Nat.reduceAdd, Nat.zero_add]; done)); intro w2 hx hk hb; replace HG := ss hk HG D_G_O.out; replace HN := ns_ hk HN D_N_O.out; replace HE := am (HE.out.step hk D_E_O.out); replace HQ := ns_ hk HQ D_Q_O.out; replace HX1 := ss hk HX1 D_X1_O.out; replace HX2 := ss hk HX2 D_X2_O.out; replace HK := kr HK hk RRO; replace HB := am hb; rw [rowOf_set] at hx; replace HO := am hx; clear hk hx hb; (try clear hy0 hy1); replace jG := HG.out.c5; replace jX1 := HX1.out.c6; replace jX2 := HX2.out.c3))
    have hrow_ : rowOf T.size (fun j => if j = i then true else false) = imOn T (⟨f0, (F1 : Int), f2, f3, l⟩ : S31) d i := imStop (imTx T) T.size f0 (F1 : Int) f2 f3 l d i HK9.out (by rw [Int.toNat_natCast]; exact HDF.out) (by have := CM.out; omega) (by have := HDM.out; omega)
    replace HO := am (hrow_ ▸ HO.out)
    clear hrow_
    skip
    go_meet
    case rel => exact rmP0
   case rest =>
    clear HB HK HM1 HM2 HG HN HE HQ HX1 HX2 HO
    clear D_G_E D_N_E D_Q_E
    try clear jG
    try clear jX1
    try clear jX2
    obtain ⟨PZ, HB, HG, HN, HZ, HQ, HX1, HX2, HO, D_G_Z, D_N_Z, D_Q_Z, D_X1_Z, D_X2_Z, D_O_Z, HK, HM1, HM2⟩ := hcut
    replace jG := HG.out.c5
    replace jX1 := HX1.out.c6
    replace jX2 := HX2.out.c3
    go_upto_region 33 with (fail)
    try dsimp only
    refine sr (n := 7) (S := fun w' => w'.cell? ⟨gG, 3, none⟩ = some (.map (some gR)) ∧ w'.cell? ⟨gX2, 0, none⟩ = some (.int .i64 (node : Int)) ∧ w'.cell? ⟨gX2, 1, none⟩ = some (.int .i64 (d1 : Int)) ∧ w'.cell? ⟨gX2, 2, none⟩ = some (.int .i64 (i : Int))) (ds := [6]) ⟨jG.2.2.2.2.2.2.1, jX2.1, jX2.2.2.1, jX2.2.2.2.2.1⟩ (fun hHeld => ?_)
    refine with_tabW impl_onward.tab33 impl_onward.bits33 (fun HT_ HW_ => ?_)
    generalize hwd_ : World.drew wc = wd_ at hHeld ⊢
    have hk := kept_drew hwd_
    replace HG := sn hk HG
    replace HN := nn hk HN
    replace HZ := am (HZ.out.step hk no_S)
    replace HQ := nn hk HQ
    replace HX1 := sn hk HX1
    replace HX2 := sn hk HX2
    replace HO := rn hk HO
    replace HK := kt HK hk
    replace HB := bd HB hwd_
    clear hk hwd_
    replace jG := HG.out.c5
    replace jX1 := HX1.out.c6
    replace jX2 := HX2.out.c3
    refine pu 0 174 HT_.out rfl rfl rfl ?_
    refine pu 1 175 HT_.out rfl rfl rfl ?_
    refine pu 2 176 HT_.out rfl rfl rfl ?_
    refine tk 3 177 HT_.out HW_.out hHeld rfl rfl rfl ?_
    refine tk 4 178 HT_.out HW_.out hHeld rfl rfl rfl ?_
    refine pu 5 179 HT_.out rfl rfl rfl ?_
    obtain ⟨w9, hput_, ⟨hst_, hkk_, hbb_⟩⟩ := (HZ.out).put3 HNE.out HL.out node d1 i HKEY.out HND.out HO.out D_O_Z.out
    dsimp only at hst_ hkk_ hbb_ hput_
    refine la_ 6 none HT_.out rfl rfl fun K hK => ?_
    refine skip_step (w1 := w9) (by rfl) rfl ?hr_27 ?_
    (case hr_27 => go_simp; first | done | (erw [hput_]; rfl))
    replace HG := am (HG.out.step hkk_ (fun k h1_ h2_ => D_G_Z.out k h1_ (h2_ ▸ HZ.out.1.2)))
    replace HN := am (HN.out.step hkk_ (fun k h1_ h2_ => D_N_Z.out k h1_ (h2_ ▸ HZ.out.1.2)))
    have hoF_ := Kd.F_kept (Kd.R_F HO.out.1) hkk_ (fun k h1_ h2_ => D_O_Z.out k h1_ (h2_ ▸ HZ.out.1.2))
    have hOE_ := am (fun k h1_ => D_O_Z.out k h1_)
    replace HK := am (HK.out.then_ hkk_ (fun _ h_ => .inl (.inr h_)))
    replace HB := am (hbb_ w HB.out HGE.out.2)
    skip
    refine hK.out _ _ ?_
    clear hK K
    refine dn HT_ ?_
    go_wp2
    go_ret
    refine ⟨_, _, _, rfl, ⟨HB.out, HG.out, HN.out, hst_, fun k h1_ h2_ => h2_.elim (D_G_Z.out k h1_) (D_G_O.out k h1_), fun k h1_ h2_ => h2_.elim (D_N_Z.out k h1_) (D_N_O.out k h1_)⟩, ?_, Kd.F_mono (HEQ.out ▸ hoF_) (fun k h_ => ⟨.inr h_, fun e_ => hOE_.out k h_ (e_ ▸ HZ.out.1.1), fun e_ => hOE_.out k h_ (e_ ▸ HZ.out.1.2)⟩), fun k h_ => .inl (HM1.out k h_), fun k h_ => h_.elim (HM2.out k) (fun h2_ => (RRO.out k h2_).elim (fun h3_ => h3_.elim (fun e_ => absurd (e_ ▸ HZ.out.1.1) (hOE_.out k h2_)) (fun e_ => absurd (e_ ▸ HZ.out.1.2) (hOE_.out k h2_))) .inr), HK.out⟩
    have := HO.out.room; rw [rowOf_len' HL.out] at this; exact this
end
end Go.Proofs.Ytlpabbcgichaoaa.PFnExactFind
