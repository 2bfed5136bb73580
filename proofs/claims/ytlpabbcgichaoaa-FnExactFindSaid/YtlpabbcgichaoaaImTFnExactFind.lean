/- The program's matcher: part. -/
import Derived.Test.YtlpabbcgichaoaaImQFnExactFind
import Derived.Test.YtlpabbcgichaoaaWWords
namespace Go.Proofs.Ytlpabbcgichaoaa.PFnExactFind
open Go.RowKit Go.Proofs.Ytlpabbcgichaoaa.Lawful Go.Proofs.YtlpabbcgichaoaaW.PrintWords Go.Proofs.YtlpabbcgichaoaaW.PrintLast Go.Proofs.YtlpabbcgichaoaaW.PrintMore
attribute [local go_sem] max2_int min2_int max_two min_two max_three min_three max_four min_four
set_option maxHeartbeats 16000000
set_option maxRecDepth 100000
set_option linter.unusedVariables false
set_option linter.unusedSimpArgs false
section
open Go.Proofs.Ytlpabbcgichaoaa.Lawful
def impl_part.T1 : Bool × List (List Nat × List Nat) := (true, [([], []), ([0], [0]), ([1], [1]), ([2], [2]), ([], []), ([3, 4], [3, 4]), ([5], [5]), ([], []), ([7, 6, 0, 1, 2, 3, 4, 5, 6, 7], [6, 7])])
def impl_part.B1 : List Nat := [0, 1, 3, 7, 0, 31, 63, 0, 255]
theorem impl_part.tab1 : rtab .any (opsOf Try.f46 1) = impl_part.T1 := by kernel_rfl
theorem impl_part.bits1 : waitsOk impl_part.T1.2 impl_part.B1 = true := by kernel_rfl
def impl_part.T5 : Bool × List (List Nat × List Nat) := (true, [([], []), ([0], [0]), ([1], [1]), ([2], [2]), ([], []), ([4], [4]), ([5], [5]), ([6], [6]), ([], []), ([8], [8]), ([9], [9]), ([10], [10]), ([], []), ([12], [12]), ([13], [13]), ([14], [14]), ([15], [15]), ([], []), ([], []), ([3, 7, 0, 1, 2, 3, 4, 5, 6, 7, 11, 17], [3, 7]), ([19, 17, 0, 1, 2, 3, 4, 5, 6, 7, 11, 17], [17, 19]), ([11, 16, 0, 1, 2, 3, 4, 5, 6, 7, 8, 9, 10, 11, 12, 13, 14, 15, 16, 17, 18, 19, 20], [11, 16]), ([21, 18, 20, 0, 1, 2, 3, 4, 5, 6, 7, 8, 9, 10, 11, 12, 13, 14, 15, 16, 17, 18, 19, 20], [18, 21])])
def impl_part.B5 : List Nat := [0, 1, 3, 7, 0, 16, 48, 112, 0, 256, 768, 1792, 0, 4096, 12288, 28672, 61440, 0, 0, 135167, 659455, 2097151, 4194303]
theorem impl_part.tab5 : rtab .any (opsOf Try.f46 5) = impl_part.T5 := by kernel_rfl
theorem impl_part.bits5 : waitsOk impl_part.T5.2 impl_part.B5 = true := by kernel_rfl
def impl_part.T6 : Bool × List (List Nat × List Nat) := (true, [([], []), ([], []), ([1], [1]), ([2], [2]), ([3], [3]), ([], []), ([], []), ([0, 4, 5, 6], [0, 4, 5, 6])])
def impl_part.B6 : List Nat := [0, 0, 2, 6, 14, 0, 0, 127]
theorem impl_part.tab6 : rtab .any (opsOf Try.f46 6) = impl_part.T6 := by kernel_rfl
theorem impl_part.bits6 : waitsOk impl_part.T6.2 impl_part.B6 = true := by kernel_rfl
def impl_part.T11 : Bool × List (List Nat × List Nat) := (true, [([], []), ([], []), ([], []), ([0, 1, 2], [0, 1, 2]), ([], []), ([3, 4], [3, 4]), ([5], [5])])
def impl_part.B11 : List Nat := [0, 0, 0, 7, 0, 31, 63]
theorem impl_part.tab11 : rtab .any (opsOf Try.f46 11) = impl_part.T11 := by kernel_rfl
theorem impl_part.bits11 : waitsOk impl_part.T11.2 impl_part.B11 = true := by kernel_rfl
theorem impl_part (E : imE) (w : World) (PO : Nat → Prop) (gO L2 cO : Nat) (hok : E.Ok w) (hGO : ∀ k, E.PG k → ¬ PO k) (hNO : ∀ k, E.PN k → ¬ PO k) (hgr : L2 < 4611686018427387904 ∧ ∀ (k : Nat) (x : S31) (ks : List Int), E.ns[k]? = some (x, ks) → x.f0 = 6 → 0 ≤ x.f1 ∧ 2 * x.f1 + 1 < (L2 : Int)) : ∀ (n : Nat) (x : S31), SizeOf.sizeOf x ≤ n → E.Part w PO gO L2 cO x := by
 intro n
 induction n with
 | zero => intro x hx; cases x; simp at hx
 | succ n ihn =>
 intro x hx node ks i j ws PE out hnode hij hj hmat hAt hO hEO
 have hkids : ∀ y ∈ x.f4, E.Part w PO gO L2 cO y := fun y hy => ihn y (by cases x; have := List.sizeOf_lt_of_mem hy; simp at hx this; omega)
 have HMO := am (fun (y : S31) (hy : y ∈ x.f4) (hkind : x.f0 = 7 ∨ x.f0 = 9) => impl_most E w PO gO L2 cO hok hGO hNO x y hkind (hkids y hy) node)
 have HFR := am (fun (y : S31) (kid : Nat) (ks2 : List Int) ws PE hkid hi h => impl_from E w (.slice (some ⟨gO, 0, none⟩) L2 cO) hok _ y (Nat.le_refl _) kid ks2 i ws PE hkid hi h)
 clear ihn hx
 obtain ⟨PG, PN, gG, gE, gR, BN, DN, T, L, ns⟩ := E
 obtain ⟨hne, hL, hT, hgE, hgR, hns, hnaa, htree⟩ := hok
 dsimp only at hL hT hnaa htree hkids HMO HFR hnode hj hmat hGO hNO hgr ⊢
 have hu := Try.underlying74
 have hu2 := Try.underlying76
 have hu3 := Try.underlying31
 have HL := am hL
 have HT := am hT
 have HPT := am hkids
 have HND := am hnode
 have HGR := am (hgr.2 node x ks hnode)
 have HL2 := am hgr.1
 obtain ⟨hrw, _, hcn⟩ := htree node x ks hnode
 obtain ⟨hkl, hkid⟩ := hnaa node x ks hnode
 have hnl : node < ns.length := (List.getElem?_eq_some_iff.1 hnode).1
 clear hkids htree hnaa hne hL hgE hgR hgr
 obtain ⟨hb_, hg_, hn_, he_, hge_, hne_⟩ := hAt
 dsimp only at hb_ hg_ hn_ he_ hge_ hne_
 have HB := am hb_
 have HG := am hg_
 have HN := am hn_
 have HE := am he_
 have D_G_E := am hge_
 have D_N_E := am hne_
 have HO := am hO
 have D_G_O := am hGO
 have D_N_O := am hNO
 have D_E_O := am hEO
 have RRO := am (show ∀ k_, PO k_ → (fun k_ => (k_ = gE ∨ k_ = gR) ∨ PO k_) k_ ∨ ws.heap.size ≤ k_ from fun _ h_ => .inl (.inr h_))
 have HK := am (Kept.refl ws (fun k_ => (k_ = gE ∨ k_ = gR) ∨ PO k_))
 have HM1 := am (show ∀ k, PE k → PE k from fun _ h => h)
 have HM2 := am (show ∀ k, PE k → PE k ∨ ws.heap.size ≤ k from fun _ h => .inl h)
 clear hb_ hg_ hn_ he_ hge_ hne_ hO hEO
 clear hGO hNO
 obtain ⟨f0, f1, f2, f3, l⟩ := x
 dsimp only at hrw hkl hkid HGR HMO HPT
 rw [rxW] at hrw
 obtain ⟨_, _, hw1, hw2, hw3, _, _⟩ := hrw
 rw [cnt] at hcn
 have HLN := am (show l.length < 1099511627776 from by have := cntL_ge l; omega)
 have HKL := am hkl
 have HKID := am hkid
 have HIJ := am (show i ≤ j ∧ j ≤ T.size ∧ i ≤ T.size ∧ T.size ≤ 120 from ⟨hij, hj, Nat.le_trans hij hj, hT⟩)
 have q1_ := zn node
 have q2_ := il hnl
 have q3_ := eq_true hnl
 have hJL : j < L := by have := HL.out; omega
 have HJL := am hJL
 have y1_ := zn j
 have y2_ := il hJL
 have y3_ := eq_true hJL
 have HMT := am hmat
 obtain ⟨r, hr⟩ : ∃ r_, r_ = sp (imTx T) T.size ⟨f0, f1, f2, f3, l⟩ i j out := ⟨_, rfl⟩
 rw [← hr]
 have HRS := am hr.symm
 clear hr hkl hkid hnode hnl hcn hij hj hT hmat hJL
 replace jG := HG.out.c5
 go_enter Try.func46, Try.ntmps46
 go_upto_region 1 with (first | ((with_reducible refine gd 4 rfl ?_); refine bx_ (N := 4) (cs := #[.pointer (some ⟨gG, 0, none⟩)]) (t := 54) rfl rfl ?hr_1 ?_; (case hr_1 => first | (go_simp; done) | (go_simp; rfl)); intro gX51 hg w2 hb hk PX51 hPX51 HX51; have GEX51 := ge_ hg HB; have D_G_X51 := na hPX51 HG; have D_N_X51 := nl hPX51 HN.out.lt; have D_E_X51 := nl hPX51 HE.out.lt; have D_O_X51 := nl hPX51 HO.out.lt; have RRX51 := ra HK hPX51; replace HG := sn hk HG; replace HN := nn hk HN; replace HE := am (HE.out.step hk no_S); replace HO := rn hk HO; replace HK := kt HK hk; replace HB := bs HB hb; clear hb hk hg hPX51; replace jG := HG.out.c5; replace jX51 := HX51.out.c1) | ((with_reducible refine gd 5 rfl ?_); refine bx_ (N := 5) (cs := #[.int .i64 (node : Int)]) (t := 3) rfl rfl ?hr_2 ?_; (case hr_2 => first | (go_simp; done) | (go_simp; rfl)); intro gX52 hg w2 hb hk PX52 hPX52 HX52; have GEX52 := ge_ hg HB; have D_G_X52 := na hPX52 HG; have D_N_X52 := nl hPX52 HN.out.lt; have D_E_X52 := nl hPX52 HE.out.lt; have D_O_X52 := nl hPX52 HO.out.lt; have D_X51_X52 := na hPX52 HX51; have RRX52 := ra HK hPX52; replace HG := sn hk HG; replace HN := nn hk HN; replace HE := am (HE.out.step hk no_S); replace HO := rn hk HO; replace HX51 := sn hk HX51; replace HK := kt HK hk; replace HB := bs HB hb; clear hb hk hg hPX52; replace jG := HG.out.c5; replace jX51 := HX51.out.c1; replace jX52 := HX52.out.c1) | ((with_reducible refine gd 6 rfl ?_); refine bx_ (N := 6) (cs := #[.int .i64 (i : Int)]) (t := 3) rfl rfl ?hr_3 ?_; (case hr_3 => first | (go_simp; done) | (go_simp; rfl)); intro gX53 hg w2 hb hk PX53 hPX53 HX53; have GEX53 := ge_ hg HB; have D_G_X53 := na hPX53 HG; have D_N_X53 := nl hPX53 HN.out.lt; have D_E_X53 := nl hPX53 HE.out.lt; have D_O_X53 := nl hPX53 HO.out.lt; have D_X51_X53 := na hPX53 HX51; have D_X52_X53 := na hPX53 HX52; have RRX53 := ra HK hPX53; replace HG := sn hk HG; replace HN := nn hk HN; replace HE := am (HE.out.step hk no_S); replace HO := rn hk HO; replace HX51 := sn hk HX51; replace HX52 := sn hk HX52; replace HK := kt HK hk; replace HB := bs HB hb; clear hb hk hg hPX53; replace jG := HG.out.c5; replace jX51 := HX51.out.c1; replace jX52 := HX52.out.c1; replace jX53 := HX53.out.c1) | ((with_reducible refine gd 7 rfl ?_); refine bx_ (N := 7) (cs := #[.int .i64 (j : Int)]) (t := 3) rfl rfl ?hr_4 ?_; (case hr_4 => first | (go_simp; done) | (go_simp; rfl)); intro gX54 hg w2 hb hk PX54 hPX54 HX54; have GEX54 := ge_ hg HB; have D_G_X54 := na hPX54 HG; have D_N_X54 := nl hPX54 HN.out.lt; have D_E_X54 := nl hPX54 HE.out.lt; have D_O_X54 := nl hPX54 HO.out.lt; have D_X51_X54 := na hPX54 HX51; have D_X52_X54 := na hPX54 HX52; have D_X53_X54 := na hPX54 HX53; have RRX54 := ra HK hPX54; replace HG := sn hk HG; replace HN := nn hk HN; replace HE := am (HE.out.step hk no_S); replace HO := rn hk HO; replace HX51 := sn hk HX51; replace HX52 := sn hk HX52; replace HX53 := sn hk HX53; replace HK := kt HK hk; replace HB := bs HB hb; clear hb hk hg hPX54; replace jG := HG.out.c5; replace jX51 := HX51.out.c1; replace jX52 := HX52.out.c1; replace jX53 := HX53.out.c1; replace jX54 := HX54.out.c1))
 obtain ⟨adN, A4, c4, A5, c5, eBN, ha0, ha1, ha2, ha3, ha4, ha5, hq_, _⟩ := at_NAF HN.out node _ HND.out
 subst eBN
 dsimp only at ha0 ha1 ha2 ha3 ha4 ha5 hq_
 have HQ := am hq_
 have D_Q_E := D_N_E
 have D_Q_O := D_N_O
 have D_Q_X51 := D_N_X51
 have D_Q_X52 := D_N_X52
 have D_Q_X53 := D_N_X53
 have D_Q_X54 := D_N_X54
 clear hq_
 replace jG := HG.out.c5
 replace jX51 := HX51.out.c1
 replace jX52 := HX52.out.c1
 replace jX53 := HX53.out.c1
 replace jX54 := HX54.out.c1
 refine sr (n := 9) (S := fun w' => w'.cell? ⟨gX51, 0, none⟩ = some (.pointer (some ⟨gG, 0, none⟩)) ∧ w'.cell? ⟨gX52, 0, none⟩ = some (.int .i64 (node : Int)) ∧ w'.cell? ⟨gG, 1, none⟩ = some (.slice (some adN) ns.length DN) ∧ w'.cell? (adN.add (node * 6)) = some (.int .i64 f0) ∧ w'.cell? (⟨(adN.add (node * 6)).block, (adN.add (node * 6)).off + 1, none⟩) = some (.int .i64 f1) ∧ w'.cell? (⟨(adN.add (node * 6)).block, (adN.add (node * 6)).off + 2, none⟩) = some (.int .i64 f2) ∧ w'.cell? (⟨(adN.add (node * 6)).block, (adN.add (node * 6)).off + 3, none⟩) = some (.string f3) ∧ w'.cell? (⟨(adN.add (node * 6)).block, (adN.add (node * 6)).off + 4, none⟩) = some (.slice A4 l.length c4) ∧ w'.cell? (⟨(adN.add (node * 6)).block, (adN.add (node * 6)).off + 5, none⟩) = some (.slice A5 ks.length c5)) (ds := [8]) ⟨jX51.1, jX52.1, jG.2.2.1, ha0, ha1, ha2, ha3, ha4, ha5⟩ (fun hHeld => ?_)
 refine with_tabW impl_part.tab1 impl_part.bits1 (fun HT_ HW_ => ?_)
 generalize hwd_ : World.drew w2 = wd_ at hHeld ⊢
 have hk := kept_drew hwd_
 replace HG := sn hk HG
 replace HN := nn hk HN
 replace HE := am (HE.out.step hk no_S)
 replace HO := rn hk HO
 replace HX51 := sn hk HX51
 replace HX52 := sn hk HX52
 replace HX53 := sn hk HX53
 replace HX54 := sn hk HX54
 replace HQ := nn hk HQ
 replace HK := kt HK hk
 replace HB := bd HB hwd_
 clear hk hwd_
 replace jG := HG.out.c5
 replace jX51 := HX51.out.c1
 replace jX52 := HX52.out.c1
 replace jX53 := HX53.out.c1
 replace jX54 := HX54.out.c1
 obtain ⟨_, _, _, t0_, t1_, t2_, t3_, t4_, t5_⟩ := id hHeld
 have HC0 := am t0_
 have HC1 := am t1_
 have HC2 := am t2_
 have HC3 := am t3_
 have HC4 := am t4_
 have HC5 := am t5_
 clear t0_ t1_ t2_ t3_ t4_ t5_ ha0 ha1 ha2 ha3 ha4 ha5
 refine tk 0 16 HT_.out HW_.out hHeld rfl rfl rfl ?_
 refine pu 1 17 HT_.out rfl rfl rfl ?_
 refine pu 2 18 HT_.out rfl rfl rfl ?_
 refine tk 3 19 HT_.out HW_.out hHeld rfl rfl rfl ?_
 refine tk 4 20 HT_.out HW_.out hHeld rfl rfl rfl ?_
 refine pu 5 21 HT_.out rfl rfl rfl ?_
 refine tk 6 22 HT_.out HW_.out hHeld rfl rfl rfl ?_
 refine on_ 7 (some 8) HT_.out rfl rfl fun K hK => ?_
 refine box_step (N := 8) (cs := #[.int .i64 0, .int .i64 0, .int .i64 0, .string ByteArray.empty, .slice none 0 0, .slice none 0 0]) (t := 76) (by rfl) rfl ?hr_5 ?_
 (case hr_5 => first | (go_simp; done) | (go_simp; rfl))
 intro gXN hg w2 hbox hb
 have hk := kept_below hb
 have hkc_ := kept_below hb
 obtain ⟨PXN, hPXN, HLXN⟩ := LB.fresh hg hbox
 have HXN := am HLXN
 clear HLXN
 have GEXN := ge_ hg HB
 have D_G_XN := na hPXN HG
 have D_N_XN := nl hPXN HN.out.lt
 have D_E_XN := nl hPXN HE.out.lt
 have D_O_XN := nl hPXN HO.out.lt
 have D_X51_XN := na hPXN HX51
 have D_X52_XN := na hPXN HX52
 have D_X53_XN := na hPXN HX53
 have D_X54_XN := na hPXN HX54
 have D_Q_XN := nl hPXN HQ.out.lt
 have RRXN := ra HK hPXN
 replace HG := sn hk HG
 replace HN := nn hk HN
 replace HE := am (HE.out.step hk no_S)
 replace HO := rn hk HO
 replace HX51 := sn hk HX51
 replace HX52 := sn hk HX52
 replace HX53 := sn hk HX53
 replace HX54 := sn hk HX54
 replace HQ := nn hk HQ
 replace HK := kt HK hk
 replace HB := bs HB hb
 clear hb hk hbox hg hPXN
 replace HC0 := am (cellK hkc_ HC0.out)
 replace HC1 := am (cellK hkc_ HC1.out)
 replace HC2 := am (cellK hkc_ HC2.out)
 replace HC3 := am (cellK hkc_ HC3.out)
 replace HC4 := am (cellK hkc_ HC4.out)
 replace HC5 := am (cellK hkc_ HC5.out)
 clear hkc_
 replace jG := HG.out.c5
 replace jX51 := HX51.out.c1
 replace jX52 := HX52.out.c1
 replace jX53 := HX53.out.c1
 replace jX54 := HX54.out.c1
 replace jXN := HXN.out.c6
 refine hK.out _ _ ⟨jX51.1, jX52.1, jG.2.2.1, HC0.out, HC1.out, HC2.out, HC3.out, HC4.out, HC5.out⟩ (fun hHeld => ?_)
 clear hK K
 refine nm ?_
 refine la_ 8 none HT_.out rfl rfl fun K hK => ?_
 refine LB.storedW_step HXN.out HB.out GEXN.out [.int .i64 f0, .int .i64 f1, .int .i64 f2, .string f3, .slice A4 l.length c4, .slice A5 ks.length c5] rfl (by rfl) rfl ?hr_6 ?_
 (case hr_6 => first | (go_simp; done) | (go_simp; simp only [World.setCells, Nat.reduceAdd, Nat.zero_add]; done))
 intro w2 hx hk hb
 replace HG := ss hk HG D_G_XN.out
 replace HN := ns_ hk HN D_N_XN.out
 replace HE := am (HE.out.step hk D_E_XN.out)
 replace HO := rs hk HO D_O_XN.out
 replace HX51 := ss hk HX51 D_X51_XN.out
 replace HX52 := ss hk HX52 D_X52_XN.out
 replace HX53 := ss hk HX53 D_X53_XN.out
 replace HX54 := ss hk HX54 D_X54_XN.out
 replace HQ := ns_ hk HQ D_Q_XN.out
 replace HK := kr HK hk RRXN
 replace HB := am hb
 replace HXN := am (show LB w2 PXN gXN 76 #[.int .i64 f0, .int .i64 f1, .int .i64 f2, .string f3, .slice A4 l.length c4, .slice A5 ks.length c5] from hx)
 clear hk hx hb
 replace jG := HG.out.c5
 replace jX51 := HX51.out.c1
 replace jX52 := HX52.out.c1
 replace jX53 := HX53.out.c1
 replace jX54 := HX54.out.c1
 replace jXN := HXN.out.c6
 refine hK.out _ _ ?_
 clear hK K
 refine dn HT_ ?_
 clear HC0 HC1 HC2 HC3 HC4 HC5
 by_cases hk_ : f0 = 6
 ·
  have k6 : (f0 == 6) = true := beq_iff_eq.mpr hk_
  have HKD := am hk_
  have HL1 := am (hw1 (.inl hk_))
  have hg6 := HGR.out hk_
  clear hk_ hw1 hw2 hw3
  obtain ⟨y, hy⟩ : ∃ y, l[0]? = some y := ⟨_, List.getElem?_eq_getElem (by have := HL1.out; omega)⟩
  obtain ⟨pk, ks2, hpk, hpn⟩ := HKID.out 0 y hy
  try dsimp only at hpk
  have hym := List.mem_of_getElem? hy
  have HPY := am (HPT.out y hym pk ks2)
  have HYM := am hym
  have HPN := am hpn
  have HPK := am hpk
  have hkq : 0 < ks.length := (List.getElem?_eq_some_iff.1 hpk).1
  have HKQ := am hkq
  have v1_ := il hkq
  have v1d_ := dl hkq
  have v2_ := eq_true hkq
  have v2d_ := decide_eq_true hkq
  have v0_ := zn 0
  have HY := am hy
  clear hpk hpn hkq hy hym
  obtain ⟨g, rfl⟩ : ∃ g : Nat, f1 = (g : Int) := ⟨f1.toNat, by omega⟩
  obtain ⟨g2, hg2⟩ : ∃ z, z = 2 * g := ⟨_, rfl⟩
  obtain ⟨g3, hg3⟩ : ∃ z, z = g2 + 1 := ⟨_, rfl⟩
  have hl6 : g3 < L2 := by omega
  have e1 : wrap64 (2 * (g : Int)) = (g2 : Int) := by have := HL2.out; unfold wrap64; omega
  have e2 : wrap64 ((g2 : Int) + 1) = (g3 : Int) := by have := HL2.out; unfold wrap64; omega
  have e1k : IntKind.i64.wrap (2 * (g : Int)) = (g2 : Int) := (i64_w _).trans e1
  have e2k : IntKind.i64.wrap ((g2 : Int) + 1) = (g3 : Int) := (i64_w _).trans e2
  have p2 := zn g2
  have r2 := eq_true (show (g2 : Int) < (L2 : Int) by omega)
  have s2 := eq_true (show g2 < L2 by omega)
  have p3 := zn g3
  have r3 := eq_true (show (g3 : Int) < (L2 : Int) by omega)
  have s3 := eq_true hl6
  have HIg2 := am (show g2 < L2 by omega)
  have HIg3 := am hl6
  have hmk := (mat_kinds (imTx T) T.size (g : Int) f2 f3 l i j out).1
  have hh := hd_y (imTx T) T.size l y HY.out
  rw [hh.1, hh.2, show (2 * (g : Int)).toNat = g2 by omega, show (2 * (g : Int) + 1).toNat = g3 by omega] at hmk
  have HSV := am (show sp (imTx T) T.size y i j ((out.set g2 (i : Int)).set g3 (j : Int)) = r from by have h_ := HRS.out; have h2_ := HKD.out; subst h2_; exact hmk.2.symm.trans h_)
  have HMY := am (show mat (imTx T) T.size y i j = true from by have h_ := HMT.out; have h2_ := HKD.out; subst h2_; exact hmk.1.symm.trans h_)
  clear hg2 hg3 hl6 hg6 hmk hh
  replace jG := HG.out.c5
  replace jX51 := HX51.out.c1
  replace jX52 := HX52.out.c1
  replace jX53 := HX53.out.c1
  replace jX54 := HX54.out.c1
  replace jXN := HXN.out.c6
  go_upto_region 5 with (fail)
  refine sr (n := 23) (S := fun w' => w'.cell? ⟨gX51, 0, none⟩ = some (.pointer (some ⟨gG, 0, none⟩)) ∧ w'.cell? ⟨gXN, 1, none⟩ = some (.int .i64 (g : Int)) ∧ w'.cell? ⟨gX53, 0, none⟩ = some (.int .i64 (i : Int)) ∧ w'.cell? ⟨gX54, 0, none⟩ = some (.int .i64 (j : Int)) ∧ w'.cell? ⟨gG, 4, none⟩ = some (.slice (some ⟨gO, 0, none⟩) L2 cO)) (ds := [22]) ⟨jX51.1, jXN.2.2.1, jX53.1, jX54.1, jG.2.2.2.2.2.2.2.2.1⟩ (fun hHeld => ?_)
  refine with_tabW impl_part.tab5 impl_part.bits5 (fun HT_ HW_ => ?_)
  generalize hwd_ : World.drew w2 = wd_ at hHeld ⊢
  have hk := kept_drew hwd_
  replace HG := sn hk HG
  replace HN := nn hk HN
  replace HE := am (HE.out.step hk no_S)
  replace HO := rn hk HO
  replace HX51 := sn hk HX51
  replace HX52 := sn hk HX52
  replace HX53 := sn hk HX53
  replace HX54 := sn hk HX54
  replace HQ := nn hk HQ
  replace HXN := sn hk HXN
  replace HK := kt HK hk
  replace HB := bd HB hwd_
  clear hk hwd_
  replace jG := HG.out.c5
  replace jX51 := HX51.out.c1
  replace jX52 := HX52.out.c1
  replace jX53 := HX53.out.c1
  replace jX54 := HX54.out.c1
  replace jXN := HXN.out.c6
  refine tk 0 29 HT_.out HW_.out hHeld rfl rfl rfl ?_
  refine pu 1 30 HT_.out rfl rfl rfl ?_
  refine pu 2 31 HT_.out rfl rfl rfl ?_
  refine tk 3 32 HT_.out HW_.out hHeld rfl rfl rfl ?_
  refine pu 4 33 HT_.out rfl rfl rfl ?_
  refine pu 5 34 HT_.out rfl rfl rfl ?_
  refine tk 6 35 HT_.out HW_.out hHeld rfl rfl rfl ?_
  refine pu 7 36 HT_.out rfl rfl rfl ?_
  refine tk 8 37 HT_.out HW_.out hHeld rfl rfl rfl ?_
  refine pu 9 38 HT_.out rfl rfl rfl ?_
  refine pu 10 39 HT_.out rfl rfl rfl ?_
  refine tk 11 40 HT_.out HW_.out hHeld rfl rfl rfl ?_
  refine pu 12 41 HT_.out rfl rfl rfl ?_
  refine pu 13 42 HT_.out rfl rfl rfl ?_
  refine tk 14 43 HT_.out HW_.out hHeld rfl rfl rfl ?_
  refine pu 15 44 HT_.out rfl rfl rfl ?_
  refine pu 16 45 HT_.out rfl rfl rfl ?_
  refine tk 17 46 HT_.out HW_.out hHeld rfl rfl rfl ?_
  refine tk 18 47 HT_.out HW_.out hHeld rfl rfl rfl ?_
  refine pu 19 48 HT_.out rfl rfl rfl ?_
  refine on_ 20 none HT_.out rfl rfl fun K hK => ?_
  obtain ⟨oy0, oy1⟩ := ip_at HO.out g2 HIg2.out
  refine ip_put_step HO.out HB.out g2 HIg2.out (i : Int) (by rfl) rfl ?hr_7 ?_
  (case hr_7 => first | (go_simp; done) | (go_simp; simp only [World.setCells, Nat.reduceAdd, Nat.zero_add]; done))
  intro w2 hx hk hb
  clear oy0 oy1
  replace HG := ss hk HG D_G_O.out
  replace HN := ns_ hk HN D_N_O.out
  replace HE := am (HE.out.step hk D_E_O.out)
  replace HX51 := ss hk HX51 (apart_symm D_O_X51.out)
  replace HX52 := ss hk HX52 (apart_symm D_O_X52.out)
  replace HX53 := ss hk HX53 (apart_symm D_O_X53.out)
  replace HX54 := ss hk HX54 (apart_symm D_O_X54.out)
  replace HQ := ns_ hk HQ D_Q_O.out
  replace HXN := ss hk HXN (apart_symm D_O_XN.out)
  replace HK := kr HK hk RRO
  replace HB := am hb
  replace HO := am hx
  clear hk hx hb
  replace jG := HG.out.c5
  replace jX51 := HX51.out.c1
  replace jX52 := HX52.out.c1
  replace jX53 := HX53.out.c1
  replace jX54 := HX54.out.c1
  replace jXN := HXN.out.c6
  refine hK.out _ _ ⟨jX51.1, jXN.2.2.1, jX53.1, jX54.1, jG.2.2.2.2.2.2.2.2.1⟩ (fun hHeld => ?_)
  clear hK K
  refine pu 21 49 HT_.out rfl rfl rfl ?_
  refine la_ 22 none HT_.out rfl rfl fun K hK => ?_
  obtain ⟨oy0, oy1⟩ := ip_at HO.out g3 HIg3.out
  refine ip_put_step HO.out HB.out g3 HIg3.out (j : Int) (by rfl) rfl ?hr_8 ?_
  (case hr_8 => first | (go_simp; done) | (go_simp; simp only [World.setCells, Nat.reduceAdd, Nat.zero_add]; done))
  intro w2 hx hk hb
  clear oy0 oy1
  replace HG := ss hk HG D_G_O.out
  replace HN := ns_ hk HN D_N_O.out
  replace HE := am (HE.out.step hk D_E_O.out)
  replace HX51 := ss hk HX51 (apart_symm D_O_X51.out)
  replace HX52 := ss hk HX52 (apart_symm D_O_X52.out)
  replace HX53 := ss hk HX53 (apart_symm D_O_X53.out)
  replace HX54 := ss hk HX54 (apart_symm D_O_X54.out)
  replace HQ := ns_ hk HQ D_Q_O.out
  replace HXN := ss hk HXN (apart_symm D_O_XN.out)
  replace HK := kr HK hk RRO
  replace HB := am hb
  replace HO := am hx
  clear hk hx hb
  replace jG := HG.out.c5
  replace jX51 := HX51.out.c1
  replace jX52 := HX52.out.c1
  replace jX53 := HX53.out.c1
  replace jX54 := HX54.out.c1
  replace jXN := HXN.out.c6
  refine hK.out _ _ ?_
  clear hK K
  refine dn HT_ ?_
  go_upto_region 6 with (fail)
  obtain ⟨ad5, eA5, hk5⟩ := im_atI HQ.out 0 HKQ.out HPK.out
  subst eA5
  rw [show ad5.add 0 = ad5 from rfl] at hk5
  replace jG := HG.out.c5
  replace jX51 := HX51.out.c1
  replace jX52 := HX52.out.c1
  replace jX53 := HX53.out.c1
  replace jX54 := HX54.out.c1
  replace jXN := HXN.out.c6
  refine sr (n := 8) (S := fun w' => w'.cell? ⟨gX51, 0, none⟩ = some (.pointer (some ⟨gG, 0, none⟩)) ∧ w'.cell? ⟨gXN, 5, none⟩ = some (.slice (some ad5) ks.length c5) ∧ w'.cell? ⟨gX53, 0, none⟩ = some (.int .i64 (i : Int)) ∧ w'.cell? ⟨gX54, 0, none⟩ = some (.int .i64 (j : Int)) ∧ w'.cell? ad5 = some (.int .i64 (pk : Int))) (ds := [7]) ⟨jX51.1, jXN.2.2.2.2.2.2.2.2.2.2.1, jX53.1, jX54.1, (im_cellI HQ.out 0 HKQ.out HPK.out)⟩ (fun hHeld => ?_)
  refine with_tabW impl_part.tab6 impl_part.bits6 (fun HT_ HW_ => ?_)
  generalize hwd_ : World.drew w2 = wd_ at hHeld ⊢
  have hk := kept_drew hwd_
  replace HG := sn hk HG
  replace HN := nn hk HN
  replace HE := am (HE.out.step hk no_S)
  replace HO := rn hk HO
  replace HX51 := sn hk HX51
  replace HX52 := sn hk HX52
  replace HX53 := sn hk HX53
  replace HX54 := sn hk HX54
  replace HQ := nn hk HQ
  replace HXN := sn hk HXN
  replace HK := kt HK hk
  replace HB := bd HB hwd_
  clear hk hwd_
  replace jG := HG.out.c5
  replace jX51 := HX51.out.c1
  replace jX52 := HX52.out.c1
  replace jX53 := HX53.out.c1
  replace jX54 := HX54.out.c1
  replace jXN := HXN.out.c6
  refine tk 0 50 HT_.out HW_.out hHeld rfl rfl rfl ?_
  refine pu 1 51 HT_.out rfl rfl rfl ?_
  refine tk 2 52 HT_.out HW_.out hHeld rfl rfl rfl ?_
  refine pu 3 53 HT_.out rfl rfl rfl ?_
  refine tk 4 54 HT_.out HW_.out hHeld rfl rfl rfl ?_
  refine tk 5 55 HT_.out HW_.out hHeld rfl rfl rfl ?_
  refine tk 6 56 HT_.out HW_.out hHeld rfl rfl rfl ?_
  refine la_ 7 (some 57) HT_.out rfl rfl fun K hK => ?_
  refine gs_ Try.func46 #[.pointer (some ⟨gG, 0, none⟩), .int .i64 (pk : Int), .int .i64 (i : Int), .int .i64 (j : Int)] rfl rfl rfl rfl ?_
  (with_reducible refine (HPY.out i j _ _ _ HPN.out HIJ.out.1 HIJ.out.2.1 HMY.out ⟨HB.out, HG.out, HN.out, HE.out, D_G_E.out, D_N_E.out⟩ HO.out D_E_O.out).mono ?_)
  rintro e w2 ⟨PE55, rfl, ⟨hb_, hg_, hn_, he_, hge_, hne_⟩, ho_, hm1_, hm2_, hkk_⟩
  refine ⟨_, rfl, ?_⟩
  dsimp only at hb_ hg_ hn_ he_ hge_ hne_ ho_ hkk_
  have D_X51_E55 := ay hm2_ HX51.out.lt D_E_X51
  have D_X52_E55 := ay hm2_ HX52.out.lt D_E_X52
  have D_X53_E55 := ay hm2_ HX53.out.lt D_E_X53
  have D_X54_E55 := ay hm2_ HX54.out.lt D_E_X54
  have D_Q_E55 := ax hm2_ HQ.out.lt D_Q_E
  have D_XN_E55 := ay hm2_ HXN.out.lt D_E_XN
  have D_O_E55 := ay hm2_ HO.out.lt D_E_O
  replace HX51 := am (HX51.out.step hkk_ (apart_or (imNotK (apart_symm D_E_X51.out) HE.out.1) (apart_symm D_O_X51.out)))
  replace HX52 := am (HX52.out.step hkk_ (apart_or (imNotK (apart_symm D_E_X52.out) HE.out.1) (apart_symm D_O_X52.out)))
  replace HX53 := am (HX53.out.step hkk_ (apart_or (imNotK (apart_symm D_E_X53.out) HE.out.1) (apart_symm D_O_X53.out)))
  replace HX54 := am (HX54.out.step hkk_ (apart_or (imNotK (apart_symm D_E_X54.out) HE.out.1) (apart_symm D_O_X54.out)))
  replace HQ := ns_ hkk_ HQ (apart_or (imNotK D_Q_E.out HE.out.1) D_Q_O.out)
  replace HXN := am (HXN.out.step hkk_ (apart_or (imNotK (apart_symm D_E_XN.out) HE.out.1) (apart_symm D_O_XN.out)))
  replace HM1 := hm1w HM1 hm1_
  replace HM2 := hm2w HM2 hm2_ HK
  replace HK := kl HK hkk_
  replace HB := am hb_
  replace HG := am hg_
  replace HN := am hn_
  have HE55 := am he_
  have D_G_E55 := am hge_
  have D_N_E55 := am hne_
  replace HO := am ho_
  clear hb_ hg_ hn_ he_ hge_ hne_ ho_ hm1_ hm2_ hkk_ HE
  replace jG := HG.out.c5
  replace jX51 := HX51.out.c1
  replace jX52 := HX52.out.c1
  replace jX53 := HX53.out.c1
  replace jX54 := HX54.out.c1
  replace jXN := HXN.out.c6
  refine hK.out _ _ ?_
  clear hK K
  refine nm ?_
  refine dn HT_ ?_
  rw [HSV.out] at HO
  go_wp2
  first | go_end0 | ((try simp only [Exit.inBlock, Exit.then]); refine bodyPost_ret (results_none rfl _ _ _) rfl ?_)
  exact ⟨_, rfl, ⟨HB.out, HG.out, HN.out, HE55.out, D_G_E55.out, D_N_E55.out⟩, HO.out, HM1.out, HM2.out, HK.out⟩
 by_cases hk_ : f0 = 8
 ·
  have k6 : (f0 == 6) = false := bnf (by omega)
  have k8 : (f0 == 8) = true := beq_iff_eq.mpr hk_
  have HKD := am hk_
  clear hw1 hw2 hw3 hk_
  have hmk := (mat_kinds (imTx T) T.size f1 f2 f3 l i j out).2.2
  have hma : matAlt (imTx T) T.size (l.drop 0) i j = true := by have h_ := HMT.out; have h2_ := HKD.out; subst h2_; exact hmk.1.symm.trans h_
  have hsa : spAlt (imTx T) T.size (l.drop 0) i j out = r := by have h_ := HRS.out; have h2_ := HKD.out; subst h2_; exact hmk.2.symm.trans h_
  have HMA := am hma
  have HSA := am hsa
  clear hma hsa hmk
  replace jG := HG.out.c5
  replace jX51 := HX51.out.c1
  replace jX52 := HX52.out.c1
  replace jX53 := HX53.out.c1
  replace jX54 := HX54.out.c1
  replace jXN := HXN.out.c6
  go_wp2
  go_loopg [63] (l.length + 1) (fun kq v63 w' => ∃ (q : Nat) (PE1 : Nat → Prop), v63 = .int .i64 (q : Int) ∧ Aside0 (q + kq = l.length + 1 ∧ 0 < kq) ∧ Aside0 (matAlt (imTx T) T.size (l.drop q) i j = true) ∧ Aside0 (spAlt (imTx T) T.size (l.drop q) i j out = r) ∧ Aside0 (Below w.heap.size w w') ∧ Aside0 (LB w' PG gG 74 #[.string T, .slice (some adN) ns.length DN, .map (some gE), .map (some gR), .slice (some ⟨gO, 0, none⟩) L2 cO]) ∧ Aside0 (LN kNA 76 w' w.heap.size PN (.slice (some adN) ns.length DN) ns) ∧ Aside0 (imK ⟨PG, PN, gG, gE, gR, some adN, DN, T, L, ns⟩ w' PE1) ∧ Aside0 (LR (Kd.int .i64) 3 w' w.heap.size PO (.slice (some ⟨gO, 0, none⟩) L2 cO) out) ∧ Aside0 (LB w' PX51 gX51 54 #[.pointer (some ⟨gG, 0, none⟩)]) ∧ Aside0 (LB w' PX52 gX52 3 #[.int .i64 (node : Int)]) ∧ Aside0 (LB w' PX53 gX53 3 #[.int .i64 (i : Int)]) ∧ Aside0 (LB w' PX54 gX54 3 #[.int .i64 (j : Int)]) ∧ Aside0 (LN (Kd.int .i64) 3 w' w.heap.size PN (.slice A5 ks.length c5) ks) ∧ Aside0 (LB w' PXN gXN 76 #[.int .i64 f0, .int .i64 f1, .int .i64 f2, .string f3, .slice A4 l.length c4, .slice A5 ks.length c5]) ∧ Aside0 (∀ k, PG k → ¬ PE1 k) ∧ Aside0 (∀ k, PN k → ¬ PE1 k) ∧ Aside0 (∀ k, PO k → ¬ PE1 k) ∧ Aside0 (∀ k, PX51 k → ¬ PE1 k) ∧ Aside0 (∀ k, PX52 k → ¬ PE1 k) ∧ Aside0 (∀ k, PX53 k → ¬ PE1 k) ∧ Aside0 (∀ k, PX54 k → ¬ PE1 k) ∧ Aside0 (∀ k, PN k → ¬ PE1 k) ∧ Aside0 (∀ k, PXN k → ¬ PE1 k) ∧ Aside0 (Kept ws w' (fun k_ => (k_ = gE ∨ k_ = gR) ∨ PO k_)) ∧ Aside0 (∀ k, PE k → PE1 k) ∧ Aside0 (∀ k, PE1 k → PE k ∨ ws.heap.size ≤ k))
  case atStart => exact ⟨0, _, rfl, ⟨by omega, by omega⟩, HMA, HSA, HB, HG, HN, HE, HO, HX51, HX52, HX53, HX54, HQ, HXN, ⟨D_G_E.out⟩, ⟨D_N_E.out⟩, ⟨(apart_symm D_E_O.out)⟩, ⟨(apart_symm D_E_X51.out)⟩, ⟨(apart_symm D_E_X52.out)⟩, ⟨(apart_symm D_E_X53.out)⟩, ⟨(apart_symm D_E_X54.out)⟩, ⟨D_Q_E.out⟩, ⟨(apart_symm D_E_XN.out)⟩, HK, HM1, HM2⟩
  case round =>
   clear HB HK HM1 HM2 HG HN HE HO HX51 HX52 HX53 HX54 HQ HXN
   clear D_E_O D_E_X51 D_E_X52 D_E_X53 D_E_X54 D_E_XN D_G_E D_N_E D_Q_E
   try clear jG
   try clear jX51
   try clear jX52
   try clear jX53
   try clear jX54
   try clear jXN
   obtain ⟨q, PZ, rfl, HX, HMA, HSA, HB, HG, HN, HZ, HO, HX51, HX52, HX53, HX54, HQ, HXN, D_G_Z, D_N_Z, D_O_Z, D_X51_Z, D_X52_Z, D_X53_Z, D_X54_Z, D_Q_Z, D_XN_Z, HK, HM1, HM2⟩ := hrel
   have hlt : q < l.length := by
    rcases Nat.lt_or_ge q l.length with h_ | h_
    ·
     exact h_
    have h2_ := HMA.out; rw [List.drop_eq_nil_of_le h_, matAlt] at h2_; exact absurd h2_ (by simp)
   obtain ⟨k1, rfl⟩ : ∃ k_, gk = k_ + 1 := ⟨gk - 1, by have := HX.out; omega⟩
   have HE2 := am (show q + 1 + k1 = l.length + 1 ∧ 0 < k1 from by have := HX.out; exact ⟨by omega, by omega⟩)
   have hwe : wrap64 ((q : Int) + 1) = ((q + 1 : Nat) : Int) := wrap_nat rfl (by have := HE2.out; have := HLN.out; omega)
   have hwek : IntKind.i64.wrap ((q : Int) + 1) = ((q + 1 : Nat) : Int) := (i64_w _).trans hwe
   obtain ⟨y, hy⟩ : ∃ y, l[q]? = some y := ⟨_, List.getElem?_eq_getElem (hlt)⟩
   obtain ⟨pk, ks2, hpk, hpn⟩ := HKID.out q y hy
   try dsimp only at hpk
   have hym := List.mem_of_getElem? hy
   have HPY := am (HPT.out y hym pk ks2)
   have HYM := am hym
   have HPN := am hpn
   have HPK := am hpk
   have hkq : q < ks.length := (List.getElem?_eq_some_iff.1 hpk).1
   have HKQ := am hkq
   have v1_ := il hkq
   have v1d_ := dl hkq
   have v2_ := eq_true hkq
   have v2d_ := decide_eq_true hkq
   have v0_ := zn q
   have HY := am hy
   clear hpk hpn hkq hy hym
   clear hlt
   obtain ⟨ad5, eA5, hk5⟩ := im_atI HQ.out q HKQ.out HPK.out
   subst eA5
   replace jG := HG.out.c5
   replace jX51 := HX51.out.c1
   replace jX52 := HX52.out.c1
   replace jX53 := HX53.out.c1
   replace jX54 := HX54.out.c1
   replace jXN := HXN.out.c6
   rcases hA : mat (imTx T) T.size y i j with _ | _
   ·
    go_upto_region 11 with (fail)
    refine sr (n := 7) (S := fun w' => w'.cell? ⟨gX51, 0, none⟩ = some (.pointer (some ⟨gG, 0, none⟩)) ∧ w'.cell? ⟨gX53, 0, none⟩ = some (.int .i64 (i : Int)) ∧ w'.cell? ⟨gX54, 0, none⟩ = some (.int .i64 (j : Int))) (ds := []) ⟨jX51.1, jX53.1, jX54.1⟩ (fun hHeld => ?_)
    refine with_tabW impl_part.tab11 impl_part.bits11 (fun HT_ HW_ => ?_)
    generalize hwd_ : World.drew wr = wd_ at hHeld ⊢
    have hk := kept_drew hwd_
    replace HG := sn hk HG
    replace HN := nn hk HN
    replace HZ := am (HZ.out.step hk no_S)
    replace HO := rn hk HO
    replace HX51 := sn hk HX51
    replace HX52 := sn hk HX52
    replace HX53 := sn hk HX53
    replace HX54 := sn hk HX54
    replace HQ := nn hk HQ
    replace HXN := sn hk HXN
    replace HK := kt HK hk
    replace HB := bd HB hwd_
    clear hk hwd_
    replace jG := HG.out.c5
    replace jX51 := HX51.out.c1
    replace jX52 := HX52.out.c1
    replace jX53 := HX53.out.c1
    replace jX54 := HX54.out.c1
    replace jXN := HXN.out.c6
    refine tk 0 67 HT_.out HW_.out hHeld rfl rfl rfl ?_
    refine pu 1 68 HT_.out rfl rfl rfl ?_
    refine tk 2 69 HT_.out HW_.out hHeld rfl rfl rfl ?_
    refine tk 4 71 HT_.out HW_.out hHeld rfl rfl rfl ?_
    refine on_ 3 (some 70) HT_.out rfl rfl fun K hK => ?_
    refine gs_ Try.func38 #[.pointer (some ⟨gG, 0, none⟩), .int .i64 (pk : Int), .int .i64 (i : Int)] rfl rfl rfl rfl ?_
    (with_reducible refine (HFR.out y pk ks2 _ _ HPN.out HIJ.out.2.2.1 ⟨HB.out, HG.out, HN.out, HZ.out, D_G_Z.out, D_N_Z.out⟩).mono ?_)
    rintro e w2 ⟨PE56, AR, cR, rfl, ⟨hb_, hg_, hn_, he_, hge_, hne_⟩, hcl_, hF_, hm1_, hm2_, hkk_⟩
    refine ⟨_, rfl, ?_⟩
    dsimp only at hb_ hg_ hn_ he_ hge_ hne_ hcl_ hF_ hkk_
    have D_O_E56 := ax hm2_ HO.out.lt D_O_Z
    have D_X51_E56 := ax hm2_ HX51.out.lt D_X51_Z
    have D_X52_E56 := ax hm2_ HX52.out.lt D_X52_Z
    have D_X53_E56 := ax hm2_ HX53.out.lt D_X53_Z
    have D_X54_E56 := ax hm2_ HX54.out.lt D_X54_Z
    have D_Q_E56 := ax hm2_ HQ.out.lt D_Q_Z
    have D_XN_E56 := ax hm2_ HXN.out.lt D_XN_Z
    replace HO := am (HO.out.step hkk_ (imNotK D_O_Z.out HZ.out.1))
    replace HX51 := am (HX51.out.step hkk_ (imNotK D_X51_Z.out HZ.out.1))
    replace HX52 := am (HX52.out.step hkk_ (imNotK D_X52_Z.out HZ.out.1))
    replace HX53 := am (HX53.out.step hkk_ (imNotK D_X53_Z.out HZ.out.1))
    replace HX54 := am (HX54.out.step hkk_ (imNotK D_X54_Z.out HZ.out.1))
    replace HQ := am (HQ.out.step hkk_ (imNotK D_Q_Z.out HZ.out.1))
    replace HXN := am (HXN.out.step hkk_ (imNotK D_XN_Z.out HZ.out.1))
    replace HM1 := hm1w HM1 hm1_
    replace HM2 := hm2w HM2 hm2_ HK
    have HR := am (imLN (base := w.heap.size) (rowOf_len' HL.out _) hcl_ hF_ (fun k h => he_.lt k h.1))
    have D_R_K := drk PE56 gE gR
    have D_R_O := dro gE gR D_O_E56
    replace HK := am (HK.out.then_ hkk_ (fun _ h_ => .inl (.inl h_)))
    replace HB := am hb_
    replace HG := am hg_
    replace HN := am hn_
    have HE56 := am he_
    have D_G_E56 := am hge_
    have D_N_E56 := am hne_
    clear hb_ hg_ hn_ he_ hge_ hne_ hcl_ hF_ hm1_ hm2_ hkk_ HZ
    replace jG := HG.out.c5
    replace jX51 := HX51.out.c1
    replace jX52 := HX52.out.c1
    replace jX53 := HX53.out.c1
    replace jX54 := HX54.out.c1
    replace jXN := HXN.out.c6
    refine hK.out _ _ ⟨jX51.1, jX53.1, jX54.1⟩ (fun hHeld => ?_)
    clear hK K
    refine nm ?_
    obtain ⟨adR, eR_, hr0⟩ := im_atN HR.out j HJL.out
    subst eR_
    rw [rowOf_getD T.size _ j HIJ.out.2.1, hA] at hr0
    refine pu 5 72 HT_.out rfl rfl rfl ?_
    refine on_ 6 (some 73) HT_.out rfl rfl fun K hK => ?_
    refine event_step (w1 := w2) (v := .bool false) (by rfl) ?hr_11 ?_
    (case hr_11 => go_simp; first | done | rfl)
    skip
    refine hK.out _ _ ⟨jX51.1, jX53.1, jX54.1⟩ (fun hHeld => ?_)
    clear hK K
    refine nm ?_
    refine dn HT_ ?_
    clear HR D_R_K D_R_O hr0
    have hon_ := alt_on (imTx T) T.size l q i j y out HY.out hA
    go_wp2
    go_roundg k1
    case measure => omega
    case rel => exact ⟨q + 1, _, by first | rfl | exact congrArg (Value.int .i64) hwe, ⟨HE2.out⟩, ⟨hon_.2.symm.trans HMA.out⟩, ⟨hon_.1.symm.trans HSA.out⟩, HB, HG, HN, HE56, HO, HX51, HX52, HX53, HX54, HQ, HXN, ⟨D_G_E56.out⟩, ⟨D_N_E56.out⟩, ⟨D_O_E56.out⟩, ⟨D_X51_E56.out⟩, ⟨D_X52_E56.out⟩, ⟨D_X53_E56.out⟩, ⟨D_X54_E56.out⟩, ⟨D_Q_E56.out⟩, ⟨D_XN_E56.out⟩, HK, HM1, HM2⟩
   go_upto_region 11 with (fail)
   refine sr (n := 7) (S := fun w' => w'.cell? ⟨gX51, 0, none⟩ = some (.pointer (some ⟨gG, 0, none⟩)) ∧ w'.cell? ⟨gX53, 0, none⟩ = some (.int .i64 (i : Int)) ∧ w'.cell? ⟨gX54, 0, none⟩ = some (.int .i64 (j : Int))) (ds := []) ⟨jX51.1, jX53.1, jX54.1⟩ (fun hHeld => ?_)
   refine with_tabW impl_part.tab11 impl_part.bits11 (fun HT_ HW_ => ?_)
   generalize hwd_ : World.drew wr = wd_ at hHeld ⊢
   have hk := kept_drew hwd_
   replace HG := sn hk HG
   replace HN := nn hk HN
   replace HZ := am (HZ.out.step hk no_S)
   replace HO := rn hk HO
   replace HX51 := sn hk HX51
   replace HX52 := sn hk HX52
   replace HX53 := sn hk HX53
   replace HX54 := sn hk HX54
   replace HQ := nn hk HQ
   replace HXN := sn hk HXN
   replace HK := kt HK hk
   replace HB := bd HB hwd_
   clear hk hwd_
   replace jG := HG.out.c5
   replace jX51 := HX51.out.c1
   replace jX52 := HX52.out.c1
   replace jX53 := HX53.out.c1
   replace jX54 := HX54.out.c1
   replace jXN := HXN.out.c6
   refine tk 0 67 HT_.out HW_.out hHeld rfl rfl rfl ?_
   refine pu 1 68 HT_.out rfl rfl rfl ?_
   refine tk 2 69 HT_.out HW_.out hHeld rfl rfl rfl ?_
   refine tk 4 71 HT_.out HW_.out hHeld rfl rfl rfl ?_
   refine on_ 3 (some 70) HT_.out rfl rfl fun K hK => ?_
   refine gs_ Try.func38 #[.pointer (some ⟨gG, 0, none⟩), .int .i64 (pk : Int), .int .i64 (i : Int)] rfl rfl rfl rfl ?_
   (with_reducible refine (HFR.out y pk ks2 _ _ HPN.out HIJ.out.2.2.1 ⟨HB.out, HG.out, HN.out, HZ.out, D_G_Z.out, D_N_Z.out⟩).mono ?_)
   rintro e w2 ⟨PE57, AR, cR, rfl, ⟨hb_, hg_, hn_, he_, hge_, hne_⟩, hcl_, hF_, hm1_, hm2_, hkk_⟩
   refine ⟨_, rfl, ?_⟩
   dsimp only at hb_ hg_ hn_ he_ hge_ hne_ hcl_ hF_ hkk_
   have D_O_E57 := ax hm2_ HO.out.lt D_O_Z
   have D_X51_E57 := ax hm2_ HX51.out.lt D_X51_Z
   have D_X52_E57 := ax hm2_ HX52.out.lt D_X52_Z
   have D_X53_E57 := ax hm2_ HX53.out.lt D_X53_Z
   have D_X54_E57 := ax hm2_ HX54.out.lt D_X54_Z
   have D_Q_E57 := ax hm2_ HQ.out.lt D_Q_Z
   have D_XN_E57 := ax hm2_ HXN.out.lt D_XN_Z
   replace HO := am (HO.out.step hkk_ (imNotK D_O_Z.out HZ.out.1))
   replace HX51 := am (HX51.out.step hkk_ (imNotK D_X51_Z.out HZ.out.1))
   replace HX52 := am (HX52.out.step hkk_ (imNotK D_X52_Z.out HZ.out.1))
   replace HX53 := am (HX53.out.step hkk_ (imNotK D_X53_Z.out HZ.out.1))
   replace HX54 := am (HX54.out.step hkk_ (imNotK D_X54_Z.out HZ.out.1))
   replace HQ := am (HQ.out.step hkk_ (imNotK D_Q_Z.out HZ.out.1))
   replace HXN := am (HXN.out.step hkk_ (imNotK D_XN_Z.out HZ.out.1))
   replace HM1 := hm1w HM1 hm1_
   replace HM2 := hm2w HM2 hm2_ HK
   have HR := am (imLN (base := w.heap.size) (rowOf_len' HL.out _) hcl_ hF_ (fun k h => he_.lt k h.1))
   have D_R_K := drk PE57 gE gR
   have D_R_O := dro gE gR D_O_E57
   replace HK := am (HK.out.then_ hkk_ (fun _ h_ => .inl (.inl h_)))
   replace HB := am hb_
   replace HG := am hg_
   replace HN := am hn_
   have HE57 := am he_
   have D_G_E57 := am hge_
   have D_N_E57 := am hne_
   clear hb_ hg_ hn_ he_ hge_ hne_ hcl_ hF_ hm1_ hm2_ hkk_ HZ
   replace jG := HG.out.c5
   replace jX51 := HX51.out.c1
   replace jX52 := HX52.out.c1
   replace jX53 := HX53.out.c1
   replace jX54 := HX54.out.c1
   replace jXN := HXN.out.c6
   refine hK.out _ _ ⟨jX51.1, jX53.1, jX54.1⟩ (fun hHeld => ?_)
   clear hK K
   refine nm ?_
   obtain ⟨adR, eR_, hr0⟩ := im_atN HR.out j HJL.out
   subst eR_
   rw [rowOf_getD T.size _ j HIJ.out.2.1, hA] at hr0
   refine pu 5 72 HT_.out rfl rfl rfl ?_
   refine on_ 6 (some 73) HT_.out rfl rfl fun K hK => ?_
   refine event_step (w1 := w2) (v := .bool true) (by rfl) ?hr_13 ?_
   (case hr_13 => go_simp; first | done | rfl)
   skip
   refine hK.out _ _ ⟨jX51.1, jX53.1, jX54.1⟩ (fun hHeld => ?_)
   clear hK K
   refine nm ?_
   refine dn HT_ ?_
   clear HR D_R_K D_R_O hr0
   have HA := am hA
   have HAL := am (show sp (imTx T) T.size y i j out = r from (alt_here (imTx T) T.size l q i j y out HY.out hA).symm.trans HSA.out)
   clear hA
   go_wp2_with (first | ((with_reducible refine gc 46 rfl ?_); refine gl_ (some 78) rfl rfl Try.func46 #[.pointer (some ⟨gG, 0, none⟩), .int .i64 (pk : Int), .int .i64 (i : Int), .int .i64 (j : Int)] rfl rfl ?_; (with_reducible refine (HPY.out i j _ _ _ HPN.out HIJ.out.1 HIJ.out.2.1 HA.out ⟨HB.out, HG.out, HN.out, HE57.out, D_G_E57.out, D_N_E57.out⟩ HO.out (apart_symm D_O_E57.out)).mono ?_); rintro e w2 ⟨PE58, rfl, ⟨hb_, hg_, hn_, he_, hge_, hne_⟩, ho_, hm1_, hm2_, hkk_⟩; refine ⟨_, rfl, ?_⟩; dsimp only at hb_ hg_ hn_ he_ hge_ hne_ ho_ hkk_; have D_X51_E58 := ax hm2_ HX51.out.lt D_X51_E57; have D_X52_E58 := ax hm2_ HX52.out.lt D_X52_E57; have D_X53_E58 := ax hm2_ HX53.out.lt D_X53_E57; have D_X54_E58 := ax hm2_ HX54.out.lt D_X54_E57; have D_Q_E58 := ax hm2_ HQ.out.lt D_Q_E57; have D_XN_E58 := ax hm2_ HXN.out.lt D_XN_E57; have D_O_E58 := ax hm2_ HO.out.lt D_O_E57; replace HX51 := am (HX51.out.step hkk_ (apart_or (imNotK D_X51_E57.out HE57.out.1) (apart_symm D_O_X51.out))); replace HX52 := am (HX52.out.step hkk_ (apart_or (imNotK D_X52_E57.out HE57.out.1) (apart_symm D_O_X52.out))); replace HX53 := am (HX53.out.step hkk_ (apart_or (imNotK D_X53_E57.out HE57.out.1) (apart_symm D_O_X53.out))); replace HX54 := am (HX54.out.step hkk_ (apart_or (imNotK D_X54_E57.out HE57.out.1) (apart_symm D_O_X54.out))); replace HQ := ns_ hkk_ HQ (apart_or (imNotK D_Q_E57.out HE57.out.1) D_Q_O.out); replace HXN := am (HXN.out.step hkk_ (apart_or (imNotK D_XN_E57.out HE57.out.1) (apart_symm D_O_XN.out))); replace HM1 := hm1w HM1 hm1_; replace HM2 := hm2w HM2 hm2_ HK; replace HK := kl HK hkk_; replace HB := am hb_; replace HG := am hg_; replace HN := am hn_; have HE58 := am he_; have D_G_E58 := am hge_; have D_N_E58 := am hne_; replace HO := am ho_; clear hb_ hg_ hn_ he_ hge_ hne_ ho_ hm1_ hm2_ hkk_ HE57; replace jG := HG.out.c5; replace jX51 := HX51.out.c1; replace jX52 := HX52.out.c1; replace jX53 := HX53.out.c1; replace jX54 := HX54.out.c1; replace jXN := HXN.out.c6))
   rw [HAL.out] at HO
   first | go_end0 | ((try simp only [Exit.inBlock, Exit.then]); refine bodyPost_ret (results_none rfl _ _ _) rfl ?_)
   exact ⟨_, rfl, ⟨HB.out, HG.out, HN.out, HE58.out, D_G_E58.out, D_N_E58.out⟩, HO.out, HM1.out, HM2.out, HK.out⟩
 by_cases hk_ : f0 = 7
 ·
  have k6 : (f0 == 6) = false := bnf (by omega)
  have k8 : (f0 == 8) = false := bnf (by omega)
  have k7 : (f0 == 7) = true := beq_iff_eq.mpr hk_
  have HKD := am hk_
  clear hw1 hw2 hw3
  subst hk_
  have hmk := (mat_kinds (imTx T) T.size f1 f2 f3 l i j out).2.1
  have HON := am (hmk.1.symm.trans HMT.out)
  have HSC := am (hmk.2.symm.trans HRS.out)
  clear hmk k6 k8 k7
  have k6 : ((7 : Int) == 6) = false := rfl
  have k8 : ((7 : Int) == 8) = false := rfl
  have k7 : ((7 : Int) == 7) = true := rfl
  replace jG := HG.out.c5
  replace jX51 := HX51.out.c1
  replace jX52 := HX52.out.c1
  replace jX53 := HX53.out.c1
  replace jX54 := HX54.out.c1
  replace jXN := HXN.out.c6
  go_wp2
  go_loopg [85] (l.length + 1) (fun kq v85 w' => ∃ (q p : Nat) (out1 : List Int) (PE1 : Nat → Prop), v85 = .int .i64 (q : Int) ∧ Aside0 (q + kq = l.length + 1 ∧ 0 < kq) ∧ Aside0 (i ≤ p ∧ p ≤ j) ∧ Aside0 (onw (imTx T) T.size (⟨7, f1, f2, f3, l⟩ : S31) q p j = true) ∧ Aside0 (spCat (imTx T) T.size (l.drop q) p j out1 = r) ∧ Aside0 (Below w.heap.size w w') ∧ Aside0 (LB w' PG gG 74 #[.string T, .slice (some adN) ns.length DN, .map (some gE), .map (some gR), .slice (some ⟨gO, 0, none⟩) L2 cO]) ∧ Aside0 (LN kNA 76 w' w.heap.size PN (.slice (some adN) ns.length DN) ns) ∧ Aside0 (imK ⟨PG, PN, gG, gE, gR, some adN, DN, T, L, ns⟩ w' PE1) ∧ Aside0 (LR (Kd.int .i64) 3 w' w.heap.size PO (.slice (some ⟨gO, 0, none⟩) L2 cO) out1) ∧ Aside0 (LB w' PX51 gX51 54 #[.pointer (some ⟨gG, 0, none⟩)]) ∧ Aside0 (LB w' PX52 gX52 3 #[.int .i64 (node : Int)]) ∧ Aside0 (LB w' PX53 gX53 3 #[.int .i64 (p : Int)]) ∧ Aside0 (LB w' PX54 gX54 3 #[.int .i64 (j : Int)]) ∧ Aside0 (LN (Kd.int .i64) 3 w' w.heap.size PN (.slice A5 ks.length c5) ks) ∧ Aside0 (LB w' PXN gXN 76 #[.int .i64 7, .int .i64 f1, .int .i64 f2, .string f3, .slice A4 l.length c4, .slice A5 ks.length c5]) ∧ Aside0 (∀ k, PG k → ¬ PE1 k) ∧ Aside0 (∀ k, PN k → ¬ PE1 k) ∧ Aside0 (∀ k, PO k → ¬ PE1 k) ∧ Aside0 (∀ k, PX51 k → ¬ PE1 k) ∧ Aside0 (∀ k, PX52 k → ¬ PE1 k) ∧ Aside0 (∀ k, PX53 k → ¬ PE1 k) ∧ Aside0 (∀ k, PX54 k → ¬ PE1 k) ∧ Aside0 (∀ k, PN k → ¬ PE1 k) ∧ Aside0 (∀ k, PXN k → ¬ PE1 k) ∧ Aside0 (Kept ws w' (fun k_ => (k_ = gE ∨ k_ = gR) ∨ PO k_)) ∧ Aside0 (∀ k, PE k → PE1 k) ∧ Aside0 (∀ k, PE1 k → PE k ∨ ws.heap.size ≤ k))
  case atStart => exact ⟨0, i, out, _, rfl, ⟨by omega, by omega⟩, ⟨by have := HIJ.out; omega⟩, HON, HSC, HB, HG, HN, HE, HO, HX51, HX52, HX53, HX54, HQ, HXN, ⟨D_G_E.out⟩, ⟨D_N_E.out⟩, ⟨(apart_symm D_E_O.out)⟩, ⟨(apart_symm D_E_X51.out)⟩, ⟨(apart_symm D_E_X52.out)⟩, ⟨(apart_symm D_E_X53.out)⟩, ⟨(apart_symm D_E_X54.out)⟩, ⟨D_Q_E.out⟩, ⟨(apart_symm D_E_XN.out)⟩, HK, HM1, HM2⟩
  case round =>
   clear HON HSC
   clear HB HK HM1 HM2 HG HN HE HO HX51 HX52 HX53 HX54 HQ HXN
   clear D_E_O D_E_X51 D_E_X52 D_E_X53 D_E_X54 D_E_XN D_G_E D_N_E D_Q_E
   try clear jG
   try clear jX51
   try clear jX52
   try clear jX53
   try clear jX54
   try clear jXN
   obtain ⟨q, p, out1, PZ, rfl, HX, HP, HON, HSC, HB, HG, HN, HZ, HO, HX51, HX52, HX53, HX54, HQ, HXN, D_G_Z, D_N_Z, D_O_Z, D_X51_Z, D_X52_Z, D_X53_Z, D_X54_Z, D_Q_Z, D_XN_Z, HK, HM1, HM2⟩ := hrel
   replace jG := HG.out.c5
   replace jX51 := HX51.out.c1
   replace jX52 := HX52.out.c1
   replace jX53 := HX53.out.c1
   replace jX54 := HX54.out.c1
   replace jXN := HXN.out.c6
   by_cases hlt : q < l.length
   ·
    obtain ⟨k1, rfl⟩ : ∃ k_, gk = k_ + 1 := ⟨gk - 1, by have := HX.out; omega⟩
    have HE2 := am (show q + 1 + k1 = l.length + 1 ∧ 0 < k1 from by have := HX.out; exact ⟨by omega, by omega⟩)
    obtain ⟨y, hy⟩ : ∃ y, l[q]? = some y := ⟨_, List.getElem?_eq_getElem (hlt)⟩
    obtain ⟨pk, ks2, hpk, hpn⟩ := HKID.out q y hy
    try dsimp only at hpk
    have hym := List.mem_of_getElem? hy
    have HPY := am (HPT.out y hym pk ks2)
    have HYM := am hym
    have HPN := am hpn
    have HPK := am hpk
    have hkq : q < ks.length := (List.getElem?_eq_some_iff.1 hpk).1
    have HKQ := am hkq
    have v1_ := il hkq
    have v1d_ := dl hkq
    have v2_ := eq_true hkq
    have v2d_ := decide_eq_true hkq
    have v0_ := zn q
    have HY := am hy
    clear hpk hpn hkq hy hym
    have HDQ := am (show ((7 : Int) = 7 → q + 1 ≤ l.length) ∧ ((7 : Int) = 9 → q + 1 ≤ 21 ∨ f2 < 0) from ⟨fun _ => hlt, fun h => absurd h (by decide)⟩)
    clear hlt
    obtain ⟨ad5, eA5, hk5⟩ := im_atI HQ.out q HKQ.out HPK.out
    subst eA5
    replace jG := HG.out.c5
    replace jX51 := HX51.out.c1
    replace jX52 := HX52.out.c1
    replace jX53 := HX53.out.c1
    replace jX54 := HX54.out.c1
    replace jXN := HXN.out.c6
    obtain ⟨t, h1_, h2_, h3_, h4_, h5_, h6_⟩ := cat_on (imTx T) T.size f1 f2 f3 l q p j y HY.out HON.out
    have HTP := am (show p ≤ t ∧ t ≤ j from ⟨h1_, h2_⟩)
    have HON2 := am h4_
    have HLK := am h5_
    have HSV := am h6_
    clear h1_ h2_ h3_ h4_ h5_ h6_
    have hwq : wrap64 ((q : Int) + 1) = (q : Int) + 1 := by have h1 := HX.out; have h2 := HLN.out; have h3 := HIJ.out; have h4 := HP.out; unfold wrap64; omega
    have hwqk : IntKind.i64.wrap ((q : Int) + 1) = (q : Int) + 1 := (i64_w _).trans hwq
    have IM := HMO.out y HYM.out (by simp) pk ks ks2 HND.out HPN.out (q + 1) p j p t (by have h_ := HDQ.out; exact ⟨fun e_ => h_.1 (by first | exact e_ | rfl), fun e_ => h_.2 (by first | exact e_ | rfl)⟩) (Nat.le_refl _) HIJ.out.2.1 HLK.out
    try dsimp only at IM
    rw [show ((q + 1 : Nat) : Int) = (q : Int) + 1 from rfl] at IM
    replace IM := am IM
    go_wp2_with (first | ((with_reducible refine gd 95 rfl ?_); refine imV_ (some 95) rfl rfl Try.func60 (by kernel_rfl) rfl #[.int .i64 (pk : Int), .int .i64 ((q : Int) + 1), .int .i64 (p : Int), .pointer (some ⟨gX51, 0, none⟩), .pointer (some ⟨gX53, 0, none⟩), .pointer (some ⟨gX54, 0, none⟩), .pointer (some ⟨gX52, 0, none⟩)] rfl (cap := #[.pointer (some ⟨gX51, 0, none⟩), .pointer (some ⟨gX53, 0, none⟩), .pointer (some ⟨gX54, 0, none⟩), .pointer (some ⟨gX52, 0, none⟩)]) (by rfl) rfl ?_; (with_reducible refine (IM.out _ _ _ _ _ _ _ _ _ _ _ ⟨HB.out, HG.out, HN.out, HZ.out, D_G_Z.out, D_N_Z.out⟩ HO.out (apart_symm D_O_Z.out) HX51.out HX53.out HX54.out HX52.out D_X51_Z.out D_X53_Z.out D_X54_Z.out D_X52_Z.out (apart_symm D_O_X51.out) (apart_symm D_O_X53.out) (apart_symm D_O_X54.out) (apart_symm D_O_X52.out)).mono ?_); rintro e w2 ⟨PE59, rfl, ⟨hb_, hg_, hn_, he_, hge_, hne_⟩, ho_, hm1_, hm2_, hkk_⟩; refine ⟨_, rfl, ?_⟩; dsimp only at hb_ hg_ hn_ he_ hge_ hne_ ho_ hkk_; have D_X51_E59 := ax hm2_ HX51.out.lt D_X51_Z; have D_X52_E59 := ax hm2_ HX52.out.lt D_X52_Z; have D_X53_E59 := ax hm2_ HX53.out.lt D_X53_Z; have D_X54_E59 := ax hm2_ HX54.out.lt D_X54_Z; have D_Q_E59 := ax hm2_ HQ.out.lt D_Q_Z; have D_XN_E59 := ax hm2_ HXN.out.lt D_XN_Z; have D_O_E59 := ax hm2_ HO.out.lt D_O_Z; replace HX51 := am (HX51.out.step hkk_ (apart_or (imNotK D_X51_Z.out HZ.out.1) (apart_symm D_O_X51.out))); replace HX52 := am (HX52.out.step hkk_ (apart_or (imNotK D_X52_Z.out HZ.out.1) (apart_symm D_O_X52.out))); replace HX53 := am (HX53.out.step hkk_ (apart_or (imNotK D_X53_Z.out HZ.out.1) (apart_symm D_O_X53.out))); replace HX54 := am (HX54.out.step hkk_ (apart_or (imNotK D_X54_Z.out HZ.out.1) (apart_symm D_O_X54.out))); replace HQ := ns_ hkk_ HQ (apart_or (imNotK D_Q_Z.out HZ.out.1) D_Q_O.out); replace HXN := am (HXN.out.step hkk_ (apart_or (imNotK D_XN_Z.out HZ.out.1) (apart_symm D_O_XN.out))); replace HM1 := hm1w HM1 hm1_; replace HM2 := hm2w HM2 hm2_ HK; replace HK := kl HK hkk_; replace HB := am hb_; replace HG := am hg_; replace HN := am hn_; have HE59 := am he_; have D_G_E59 := am hge_; have D_N_E59 := am hne_; replace HO := am ho_; clear hb_ hg_ hn_ he_ hge_ hne_ ho_ hm1_ hm2_ hkk_ HZ; replace jG := HG.out.c5; replace jX51 := HX51.out.c1; replace jX52 := HX52.out.c1; replace jX53 := HX53.out.c1; replace jX54 := HX54.out.c1; replace jXN := HXN.out.c6) | ((with_reducible refine gate_store (t := 3) (p := 6) rfl ?_); refine LB.storedW HX53.out HB.out GEX53.out [.int .i64 (t : Int)] rfl rfl (t := 3) (p := 6) rfl rfl ?hr_16 ?_; (case hr_16 => first | (go_simp; done) | (go_simp; simp only [World.setCells, Nat.reduceAdd, Nat.zero_add]; done)); intro w2 hx hk hb; replace HG := ss hk HG D_G_X53.out; replace HN := ns_ hk HN D_N_X53.out; replace HO := rs hk HO D_O_X53.out; replace HX51 := ss hk HX51 D_X51_X53.out; replace HX52 := ss hk HX52 D_X52_X53.out; replace HX54 := ss hk HX54 (apart_symm D_X53_X54.out); replace HQ := ns_ hk HQ D_Q_X53.out; replace HXN := ss hk HXN (apart_symm D_X53_XN.out); replace HE59 := am (HE59.out.step hk (apart_symm D_X53_E59.out)); replace HK := kr HK hk RRX53; replace HB := am hb; replace HX53 := am (show LB w2 PX53 gX53 3 #[.int .i64 (t : Int)] from hx); clear hk hx hb; replace jG := HG.out.c5; replace jX51 := HX51.out.c1; replace jX52 := HX52.out.c1; replace jX53 := HX53.out.c1; replace jX54 := HX54.out.c1; replace jXN := HXN.out.c6))
    go_roundg k1
    case measure => omega
    case rel => exact ⟨q + 1, t, _, _, by first | rfl | exact congrArg (Value.int .i64) hwq, ⟨HE2.out⟩, ⟨by have h1 := HP.out; have h2 := HTP.out; omega⟩, HON2, ⟨(HSV.out out1).symm.trans HSC.out⟩, HB, HG, HN, HE59, HO, HX51, HX52, HX53, HX54, HQ, HXN, ⟨D_G_E59.out⟩, ⟨D_N_E59.out⟩, ⟨D_O_E59.out⟩, ⟨D_X51_E59.out⟩, ⟨D_X52_E59.out⟩, ⟨D_X53_E59.out⟩, ⟨D_X54_E59.out⟩, ⟨D_Q_E59.out⟩, ⟨D_XN_E59.out⟩, HK, HM1, HM2⟩
   obtain rfl : q = l.length := by have := HX.out; omega
   have v1d_ : decide (((l.length : Nat) : Int) < (ks.length : Int)) = false := decide_eq_false (by have := HKL.out; omega)
   have v2d_ : decide (l.length < ks.length) = false := decide_eq_false (by have := HKL.out; omega)
   have HEO := am (show out1 = r from by have h_ := HSC.out; rw [List.drop_eq_nil_of_le (Nat.le_refl _), spCat] at h_; exact h_)
   go_wp2
   first | go_end0 | ((try simp only [Exit.inBlock, Exit.then]); refine bodyPost_ret (results_none rfl _ _ _) rfl ?_)
   exact ⟨_, rfl, ⟨HB.out, HG.out, HN.out, HZ.out, D_G_Z.out, D_N_Z.out⟩, (by rw [← HEO.out]; exact HO.out), HM1.out, HM2.out, HK.out⟩
 by_cases hk_ : f0 = 9
 ·
  have k6 : (f0 == 6) = false := bnf (by omega)
  have k8 : (f0 == 8) = false := bnf (by omega)
  have k7 : (f0 == 7) = false := bnf (by omega)
  have k9 : (f0 == 9) = true := beq_iff_eq.mpr hk_
  have HKD := am hk_
  have HL1 := am (hw1 (.inr hk_))
  obtain ⟨hf0, hf20, hfm⟩ := hw2 hk_
  clear hw1 hw2 hw3
  subst hk_
  obtain ⟨F1, rfl⟩ := Int.eq_ofNat_of_zero_le hf0
  have HF1 := am (show F1 ≤ 20 by omega)
  have HFM := am hfm
  clear hf0 hf20 hfm k6 k8 k7 k9
  have k6 : ((9 : Int) == 6) = false := rfl
  have k8 : ((9 : Int) == 8) = false := rfl
  have k7 : ((9 : Int) == 7) = false := rfl
  have k9 : ((9 : Int) == 9) = true := rfl
  obtain ⟨y, hy⟩ : ∃ y, l[0]? = some y := ⟨_, List.getElem?_eq_getElem (by have := HL1.out; omega)⟩
  obtain ⟨pk, ks2, hpk, hpn⟩ := HKID.out 0 y hy
  try dsimp only at hpk
  have hym := List.mem_of_getElem? hy
  have HPY := am (HPT.out y hym pk ks2)
  have HYM := am hym
  have HPN := am hpn
  have HPK := am hpk
  have hkq : 0 < ks.length := (List.getElem?_eq_some_iff.1 hpk).1
  have HKQ := am hkq
  have v1_ := il hkq
  have v1d_ := dl hkq
  have v2_ := eq_true hkq
  have v2d_ := decide_eq_true hkq
  have v0_ := zn 0
  have HY := am hy
  clear hpk hpn hkq hy hym
  have hh := hd_y (imTx T) T.size l y HY.out
  have HON := am ((onw_zero (imTx T) T.size 9 (F1 : Int) f2 f3 l (.inr rfl) i j).trans HMT.out)
  have hrs := (rep_start (imTx T) T.size (F1 : Int) f2 f3 l i j out).symm.trans HRS.out
  rw [hh.1, hh.2, Int.toNat_natCast] at hrs
  have HSC := am hrs
  have hmu := fun d p hd h => rep_must (imTx T) T.size (F1 : Int) f2 f3 l d p j hd h
  have hmo := fun d p hd hp h => rep_on (imTx T) T.size (F1 : Int) f2 f3 l d p j hd hp h
  rw [hh.1, hh.2, Int.toNat_natCast] at hmu hmo
  have HMU := am hmu
  have HMV := am hmo
  clear hrs hh hmu hmo
  obtain ⟨ad5, eA5, hk5⟩ := im_atI HQ.out 0 HKQ.out HPK.out
  subst eA5
  rw [show ad5.add 0 = ad5 from rfl] at hk5
  replace jG := HG.out.c5
  replace jX51 := HX51.out.c1
  replace jX52 := HX52.out.c1
  replace jX53 := HX53.out.c1
  replace jX54 := HX54.out.c1
  replace jXN := HXN.out.c6
  go_wp2
  go_loopg [14] (F1 + (j - i) + 1) (fun kq v14 w' => ∃ (q p : Nat) (out1 : List Int) (PE1 : Nat → Prop), v14 = .int .i64 (q : Int) ∧ Aside0 ((F1 - q) + (j - p) < kq ∧ q ≤ F1 + p) ∧ Aside0 (i ≤ p ∧ p ≤ j) ∧ Aside0 (onw (imTx T) T.size (⟨9, (F1 : Int), f2, f3, l⟩ : S31) q p j = true) ∧ Aside0 (repSt (mat (imTx T) T.size y) (sp (imTx T) T.size y) F1 f2 q p j out1 = r) ∧ Aside0 (Below w.heap.size w w') ∧ Aside0 (LB w' PG gG 74 #[.string T, .slice (some adN) ns.length DN, .map (some gE), .map (some gR), .slice (some ⟨gO, 0, none⟩) L2 cO]) ∧ Aside0 (LN kNA 76 w' w.heap.size PN (.slice (some adN) ns.length DN) ns) ∧ Aside0 (imK ⟨PG, PN, gG, gE, gR, some adN, DN, T, L, ns⟩ w' PE1) ∧ Aside0 (LR (Kd.int .i64) 3 w' w.heap.size PO (.slice (some ⟨gO, 0, none⟩) L2 cO) out1) ∧ Aside0 (LB w' PX51 gX51 54 #[.pointer (some ⟨gG, 0, none⟩)]) ∧ Aside0 (LB w' PX52 gX52 3 #[.int .i64 (node : Int)]) ∧ Aside0 (LB w' PX53 gX53 3 #[.int .i64 (p : Int)]) ∧ Aside0 (LB w' PX54 gX54 3 #[.int .i64 (j : Int)]) ∧ Aside0 (LN (Kd.int .i64) 3 w' w.heap.size PN (.slice (some ad5) ks.length c5) ks) ∧ Aside0 (LB w' PXN gXN 76 #[.int .i64 9, .int .i64 (F1 : Int), .int .i64 f2, .string f3, .slice A4 l.length c4, .slice (some ad5) ks.length c5]) ∧ Aside0 (∀ k, PG k → ¬ PE1 k) ∧ Aside0 (∀ k, PN k → ¬ PE1 k) ∧ Aside0 (∀ k, PO k → ¬ PE1 k) ∧ Aside0 (∀ k, PX51 k → ¬ PE1 k) ∧ Aside0 (∀ k, PX52 k → ¬ PE1 k) ∧ Aside0 (∀ k, PX53 k → ¬ PE1 k) ∧ Aside0 (∀ k, PX54 k → ¬ PE1 k) ∧ Aside0 (∀ k, PN k → ¬ PE1 k) ∧ Aside0 (∀ k, PXN k → ¬ PE1 k) ∧ Aside0 (Kept ws w' (fun k_ => (k_ = gE ∨ k_ = gR) ∨ PO k_)) ∧ Aside0 (∀ k, PE k → PE1 k) ∧ Aside0 (∀ k, PE1 k → PE k ∨ ws.heap.size ≤ k))
  case atStart => exact ⟨0, i, out, _, rfl, ⟨by omega, by omega⟩, ⟨by have := HIJ.out; omega⟩, HON, HSC, HB, HG, HN, HE, HO, HX51, HX52, HX53, HX54, HQ, HXN, ⟨D_G_E.out⟩, ⟨D_N_E.out⟩, ⟨(apart_symm D_E_O.out)⟩, ⟨(apart_symm D_E_X51.out)⟩, ⟨(apart_symm D_E_X52.out)⟩, ⟨(apart_symm D_E_X53.out)⟩, ⟨(apart_symm D_E_X54.out)⟩, ⟨D_Q_E.out⟩, ⟨(apart_symm D_E_XN.out)⟩, HK, HM1, HM2⟩
  case round =>
   clear HON HSC
   clear HB HK HM1 HM2 HG HN HE HO HX51 HX52 HX53 HX54 HQ HXN
   clear D_E_O D_E_X51 D_E_X52 D_E_X53 D_E_X54 D_E_XN D_G_E D_N_E D_Q_E
   try clear jG
   try clear jX51
   try clear jX52
   try clear jX53
   try clear jX54
   try clear jXN
   obtain ⟨q, p, out1, PZ, rfl, HX, HP, HON, HSC, HB, HG, HN, HZ, HO, HX51, HX52, HX53, HX54, HQ, HXN, D_G_Z, D_N_Z, D_O_Z, D_X51_Z, D_X52_Z, D_X53_Z, D_X54_Z, D_Q_Z, D_XN_Z, HK, HM1, HM2⟩ := hrel
   replace jG := HG.out.c5
   replace jX51 := HX51.out.c1
   replace jX52 := HX52.out.c1
   replace jX53 := HX53.out.c1
   replace jX54 := HX54.out.c1
   replace jXN := HXN.out.c6
   by_cases hqf : q < F1
   ·
    obtain ⟨k1, rfl⟩ : ∃ k_, gk = k_ + 1 := ⟨gk - 1, by have := HX.out; omega⟩
    have cba : decide ((q : Int) < (F1 : Int)) = true := decide_eq_true (by omega)
    have cbb : decide (q < F1) = true := decide_eq_true (by omega)
    have cbc : decide ((F1 : Int) ≤ (q : Int)) = false := decide_eq_false (by omega)
    have cbd : decide (F1 ≤ q) = false := decide_eq_false (by omega)
    have cbe : decide ((q : Int) ≥ (F1 : Int)) = false := cbc
    have HQF := am hqf
    obtain ⟨t, h1_, h2_, h3_, h4_, h5_, h6_⟩ := HMU.out q p hqf HON.out
    have HTP := am (show p ≤ t ∧ t ≤ j from ⟨h1_, h2_⟩)
    have HON2 := am h4_
    have HLK := am h5_
    have HSV := am h6_
    have HDQ := am (show ((9 : Int) = 7 → q + 1 ≤ l.length) ∧ ((9 : Int) = 9 → q + 1 ≤ 21 ∨ f2 < 0) from ⟨fun h => absurd h (by decide), fun _ => .inl (by have := HF1.out; omega)⟩)
    clear h1_ h2_ h3_ h4_ h5_ h6_ hqf
    have hk5 := im_cellI HQ.out 0 HKQ.out HPK.out
    rw [show ad5.add 0 = ad5 from rfl] at hk5
    have hwq : wrap64 ((q : Int) + 1) = (q : Int) + 1 := by have h1 := HX.out; have h2 := HLN.out; have h3 := HIJ.out; have h4 := HP.out; have h5 := HF1.out; unfold wrap64; omega
    have hwqk : IntKind.i64.wrap ((q : Int) + 1) = (q : Int) + 1 := (i64_w _).trans hwq
    have IM := HMO.out y HYM.out (by simp) pk ks ks2 HND.out HPN.out (q + 1) p j p t (by have h_ := HDQ.out; exact ⟨fun e_ => h_.1 (by first | exact e_ | rfl), fun e_ => h_.2 (by first | exact e_ | rfl)⟩) (Nat.le_refl _) HIJ.out.2.1 HLK.out
    try dsimp only at IM
    rw [show ((q + 1 : Nat) : Int) = (q : Int) + 1 from rfl] at IM
    replace IM := am IM
    go_wp2_with (first | ((with_reducible refine gd 127 rfl ?_); refine imV_ (some 127) rfl rfl Try.func60 (by kernel_rfl) rfl #[.int .i64 (pk : Int), .int .i64 ((q : Int) + 1), .int .i64 (p : Int), .pointer (some ⟨gX51, 0, none⟩), .pointer (some ⟨gX53, 0, none⟩), .pointer (some ⟨gX54, 0, none⟩), .pointer (some ⟨gX52, 0, none⟩)] rfl (cap := #[.pointer (some ⟨gX51, 0, none⟩), .pointer (some ⟨gX53, 0, none⟩), .pointer (some ⟨gX54, 0, none⟩), .pointer (some ⟨gX52, 0, none⟩)]) (by rfl) rfl ?_; (with_reducible refine (IM.out _ _ _ _ _ _ _ _ _ _ _ ⟨HB.out, HG.out, HN.out, HZ.out, D_G_Z.out, D_N_Z.out⟩ HO.out (apart_symm D_O_Z.out) HX51.out HX53.out HX54.out HX52.out D_X51_Z.out D_X53_Z.out D_X54_Z.out D_X52_Z.out (apart_symm D_O_X51.out) (apart_symm D_O_X53.out) (apart_symm D_O_X54.out) (apart_symm D_O_X52.out)).mono ?_); rintro e w2 ⟨PE60, rfl, ⟨hb_, hg_, hn_, he_, hge_, hne_⟩, ho_, hm1_, hm2_, hkk_⟩; refine ⟨_, rfl, ?_⟩; dsimp only at hb_ hg_ hn_ he_ hge_ hne_ ho_ hkk_; have D_X51_E60 := ax hm2_ HX51.out.lt D_X51_Z; have D_X52_E60 := ax hm2_ HX52.out.lt D_X52_Z; have D_X53_E60 := ax hm2_ HX53.out.lt D_X53_Z; have D_X54_E60 := ax hm2_ HX54.out.lt D_X54_Z; have D_Q_E60 := ax hm2_ HQ.out.lt D_Q_Z; have D_XN_E60 := ax hm2_ HXN.out.lt D_XN_Z; have D_O_E60 := ax hm2_ HO.out.lt D_O_Z; replace HX51 := am (HX51.out.step hkk_ (apart_or (imNotK D_X51_Z.out HZ.out.1) (apart_symm D_O_X51.out))); replace HX52 := am (HX52.out.step hkk_ (apart_or (imNotK D_X52_Z.out HZ.out.1) (apart_symm D_O_X52.out))); replace HX53 := am (HX53.out.step hkk_ (apart_or (imNotK D_X53_Z.out HZ.out.1) (apart_symm D_O_X53.out))); replace HX54 := am (HX54.out.step hkk_ (apart_or (imNotK D_X54_Z.out HZ.out.1) (apart_symm D_O_X54.out))); replace HQ := ns_ hkk_ HQ (apart_or (imNotK D_Q_Z.out HZ.out.1) D_Q_O.out); replace HXN := am (HXN.out.step hkk_ (apart_or (imNotK D_XN_Z.out HZ.out.1) (apart_symm D_O_XN.out))); replace HM1 := hm1w HM1 hm1_; replace HM2 := hm2w HM2 hm2_ HK; replace HK := kl HK hkk_; replace HB := am hb_; replace HG := am hg_; replace HN := am hn_; have HE60 := am he_; have D_G_E60 := am hge_; have D_N_E60 := am hne_; replace HO := am ho_; clear hb_ hg_ hn_ he_ hge_ hne_ ho_ hm1_ hm2_ hkk_ HZ; replace jG := HG.out.c5; replace jX51 := HX51.out.c1; replace jX52 := HX52.out.c1; replace jX53 := HX53.out.c1; replace jX54 := HX54.out.c1; replace jXN := HXN.out.c6) | ((with_reducible refine gate_store (t := 3) (p := 6) rfl ?_); refine LB.storedW HX53.out HB.out GEX53.out [.int .i64 (t : Int)] rfl rfl (t := 3) (p := 6) rfl rfl ?hr_18 ?_; (case hr_18 => first | (go_simp; done) | (go_simp; simp only [World.setCells, Nat.reduceAdd, Nat.zero_add]; done)); intro w2 hx hk hb; replace HG := ss hk HG D_G_X53.out; replace HN := ns_ hk HN D_N_X53.out; replace HO := rs hk HO D_O_X53.out; replace HX51 := ss hk HX51 D_X51_X53.out; replace HX52 := ss hk HX52 D_X52_X53.out; replace HX54 := ss hk HX54 (apart_symm D_X53_X54.out); replace HQ := ns_ hk HQ D_Q_X53.out; replace HXN := ss hk HXN (apart_symm D_X53_XN.out); replace HE60 := am (HE60.out.step hk (apart_symm D_X53_E60.out)); replace HK := kr HK hk RRX53; replace HB := am hb; replace HX53 := am (show LB w2 PX53 gX53 3 #[.int .i64 (t : Int)] from hx); clear hk hx hb; replace jG := HG.out.c5; replace jX51 := HX51.out.c1; replace jX52 := HX52.out.c1; replace jX53 := HX53.out.c1; replace jX54 := HX54.out.c1; replace jXN := HXN.out.c6))
    go_roundg k1
    case measure => have := HX.out; omega
    case rel => exact ⟨q + 1, t, _, _, by first | rfl | exact congrArg (Value.int .i64) hwq, ⟨by have h1 := HX.out; have h2 := HTP.out; have h3 := HQF.out; omega⟩, ⟨by have h1 := HP.out; have h2 := HTP.out; omega⟩, HON2, ⟨(HSV.out out1).symm.trans HSC.out⟩, HB, HG, HN, HE60, HO, HX51, HX52, HX53, HX54, HQ, HXN, ⟨D_G_E60.out⟩, ⟨D_N_E60.out⟩, ⟨D_O_E60.out⟩, ⟨D_X51_E60.out⟩, ⟨D_X52_E60.out⟩, ⟨D_X53_E60.out⟩, ⟨D_X54_E60.out⟩, ⟨D_Q_E60.out⟩, ⟨D_XN_E60.out⟩, HK, HM1, HM2⟩
   have cba : decide ((q : Int) < (F1 : Int)) = false := decide_eq_false (by omega)
   have cbb : decide (q < F1) = false := decide_eq_false (by omega)
   have cbc : decide ((F1 : Int) ≤ (q : Int)) = true := decide_eq_true (by omega)
   have cbd : decide (F1 ≤ q) = true := decide_eq_true (by omega)
   have cbe : decide ((q : Int) ≥ (F1 : Int)) = true := cbc
   by_cases hpj : p < j
   ·
    obtain ⟨k1, rfl⟩ : ∃ k_, gk = k_ + 1 := ⟨gk - 1, by have := HX.out; omega⟩
    have cpa : decide ((p : Int) < (j : Int)) = true := decide_eq_true (by omega)
    have cpb : decide (p < j) = true := decide_eq_true (by omega)
    have cpc : decide ((j : Int) ≤ (p : Int)) = false := decide_eq_false (by omega)
    have cpd : decide (j ≤ p) = false := decide_eq_false (by omega)
    have cpe : decide ((p : Int) ≥ (j : Int)) = false := cpc
    have HQF := am (show ¬ q < F1 ∧ p < j from ⟨hqf, hpj⟩)
    obtain ⟨h0_, t, h1_, h2_, h3_, h4_, h5_, h6_⟩ := HMV.out q p hqf hpj HON.out
    have HTP := am (show p + 1 ≤ t ∧ t ≤ j from ⟨h1_, h2_⟩)
    have HON2 := am h4_
    have HLK := am h5_
    have HSV := am h6_
    have HDQ := am (show ((9 : Int) = 7 → q + 1 ≤ l.length) ∧ ((9 : Int) = 9 → q + 1 ≤ 21 ∨ f2 < 0) from ⟨fun h => absurd h (by decide), fun _ => by have h7 := HFM.out; omega⟩)
    clear h0_ h1_ h2_ h3_ h4_ h5_ h6_ hqf hpj
    have hwp : wrap64 ((p : Int) + 1) = (p : Int) + 1 := by have h3 := HIJ.out; have h4 := HP.out; unfold wrap64; omega
    have hwpk : IntKind.i64.wrap ((p : Int) + 1) = (p : Int) + 1 := (i64_w _).trans hwp
    have hk5 := im_cellI HQ.out 0 HKQ.out HPK.out
    rw [show ad5.add 0 = ad5 from rfl] at hk5
    have hwq : wrap64 ((q : Int) + 1) = (q : Int) + 1 := by have h1 := HX.out; have h2 := HLN.out; have h3 := HIJ.out; have h4 := HP.out; have h5 := HF1.out; unfold wrap64; omega
    have hwqk : IntKind.i64.wrap ((q : Int) + 1) = (q : Int) + 1 := (i64_w _).trans hwq
    have IM := HMO.out y HYM.out (by simp) pk ks ks2 HND.out HPN.out (q + 1) p j (p + 1) t (by have h_ := HDQ.out; exact ⟨fun e_ => h_.1 (by first | exact e_ | rfl), fun e_ => h_.2 (by first | exact e_ | rfl)⟩) (Nat.le_succ _) HIJ.out.2.1 HLK.out
    try dsimp only at IM
    rw [show ((q + 1 : Nat) : Int) = (q : Int) + 1 from rfl] at IM
    rw [show ((p + 1 : Nat) : Int) = (p : Int) + 1 from rfl] at IM
    replace IM := am IM
    go_wp2_with (first | ((with_reducible refine gd 127 rfl ?_); refine imV_ (some 127) rfl rfl Try.func60 (by kernel_rfl) rfl #[.int .i64 (pk : Int), .int .i64 ((q : Int) + 1), .int .i64 ((p : Int) + 1), .pointer (some ⟨gX51, 0, none⟩), .pointer (some ⟨gX53, 0, none⟩), .pointer (some ⟨gX54, 0, none⟩), .pointer (some ⟨gX52, 0, none⟩)] rfl (cap := #[.pointer (some ⟨gX51, 0, none⟩), .pointer (some ⟨gX53, 0, none⟩), .pointer (some ⟨gX54, 0, none⟩), .pointer (some ⟨gX52, 0, none⟩)]) (by rfl) rfl ?_; (with_reducible refine (IM.out _ _ _ _ _ _ _ _ _ _ _ ⟨HB.out, HG.out, HN.out, HZ.out, D_G_Z.out, D_N_Z.out⟩ HO.out (apart_symm D_O_Z.out) HX51.out HX53.out HX54.out HX52.out D_X51_Z.out D_X53_Z.out D_X54_Z.out D_X52_Z.out (apart_symm D_O_X51.out) (apart_symm D_O_X53.out) (apart_symm D_O_X54.out) (apart_symm D_O_X52.out)).mono ?_); rintro e w2 ⟨PE61, rfl, ⟨hb_, hg_, hn_, he_, hge_, hne_⟩, ho_, hm1_, hm2_, hkk_⟩; refine ⟨_, rfl, ?_⟩; dsimp only at hb_ hg_ hn_ he_ hge_ hne_ ho_ hkk_; have D_X51_E61 := ax hm2_ HX51.out.lt D_X51_Z; have D_X52_E61 := ax hm2_ HX52.out.lt D_X52_Z; have D_X53_E61 := ax hm2_ HX53.out.lt D_X53_Z; have D_X54_E61 := ax hm2_ HX54.out.lt D_X54_Z; have D_Q_E61 := ax hm2_ HQ.out.lt D_Q_Z; have D_XN_E61 := ax hm2_ HXN.out.lt D_XN_Z; have D_O_E61 := ax hm2_ HO.out.lt D_O_Z; replace HX51 := am (HX51.out.step hkk_ (apart_or (imNotK D_X51_Z.out HZ.out.1) (apart_symm D_O_X51.out))); replace HX52 := am (HX52.out.step hkk_ (apart_or (imNotK D_X52_Z.out HZ.out.1) (apart_symm D_O_X52.out))); replace HX53 := am (HX53.out.step hkk_ (apart_or (imNotK D_X53_Z.out HZ.out.1) (apart_symm D_O_X53.out))); replace HX54 := am (HX54.out.step hkk_ (apart_or (imNotK D_X54_Z.out HZ.out.1) (apart_symm D_O_X54.out))); replace HQ := ns_ hkk_ HQ (apart_or (imNotK D_Q_Z.out HZ.out.1) D_Q_O.out); replace HXN := am (HXN.out.step hkk_ (apart_or (imNotK D_XN_Z.out HZ.out.1) (apart_symm D_O_XN.out))); replace HM1 := hm1w HM1 hm1_; replace HM2 := hm2w HM2 hm2_ HK; replace HK := kl HK hkk_; replace HB := am hb_; replace HG := am hg_; replace HN := am hn_; have HE61 := am he_; have D_G_E61 := am hge_; have D_N_E61 := am hne_; replace HO := am ho_; clear hb_ hg_ hn_ he_ hge_ hne_ ho_ hm1_ hm2_ hkk_ HZ; replace jG := HG.out.c5; replace jX51 := HX51.out.c1; replace jX52 := HX52.out.c1; replace jX53 := HX53.out.c1; replace jX54 := HX54.out.c1; replace jXN := HXN.out.c6) | ((with_reducible refine gate_store (t := 3) (p := 6) rfl ?_); refine LB.storedW HX53.out HB.out GEX53.out [.int .i64 (t : Int)] rfl rfl (t := 3) (p := 6) rfl rfl ?hr_20 ?_; (case hr_20 => first | (go_simp; done) | (go_simp; simp only [World.setCells, Nat.reduceAdd, Nat.zero_add]; done)); intro w2 hx hk hb; replace HG := ss hk HG D_G_X53.out; replace HN := ns_ hk HN D_N_X53.out; replace HO := rs hk HO D_O_X53.out; replace HX51 := ss hk HX51 D_X51_X53.out; replace HX52 := ss hk HX52 D_X52_X53.out; replace HX54 := ss hk HX54 (apart_symm D_X53_X54.out); replace HQ := ns_ hk HQ D_Q_X53.out; replace HXN := ss hk HXN (apart_symm D_X53_XN.out); replace HE61 := am (HE61.out.step hk (apart_symm D_X53_E61.out)); replace HK := kr HK hk RRX53; replace HB := am hb; replace HX53 := am (show LB w2 PX53 gX53 3 #[.int .i64 (t : Int)] from hx); clear hk hx hb; replace jG := HG.out.c5; replace jX51 := HX51.out.c1; replace jX52 := HX52.out.c1; replace jX53 := HX53.out.c1; replace jX54 := HX54.out.c1; replace jXN := HXN.out.c6))
    go_roundg k1
    case measure => have := HX.out; omega
    case rel => exact ⟨q + 1, t, _, _, by first | rfl | exact congrArg (Value.int .i64) hwq, ⟨by have h1 := HX.out; have h2 := HTP.out; have h3 := HQF.out; omega⟩, ⟨by have h1 := HP.out; have h2 := HTP.out; omega⟩, HON2, ⟨(HSV.out out1).symm.trans HSC.out⟩, HB, HG, HN, HE61, HO, HX51, HX52, HX53, HX54, HQ, HXN, ⟨D_G_E61.out⟩, ⟨D_N_E61.out⟩, ⟨D_O_E61.out⟩, ⟨D_X51_E61.out⟩, ⟨D_X52_E61.out⟩, ⟨D_X53_E61.out⟩, ⟨D_X54_E61.out⟩, ⟨D_Q_E61.out⟩, ⟨D_XN_E61.out⟩, HK, HM1, HM2⟩
   have cpa : decide ((p : Int) < (j : Int)) = false := decide_eq_false (by omega)
   have cpb : decide (p < j) = false := decide_eq_false (by omega)
   have cpc : decide ((j : Int) ≤ (p : Int)) = true := decide_eq_true (by omega)
   have cpd : decide (j ≤ p) = true := decide_eq_true (by omega)
   have cpe : decide ((p : Int) ≥ (j : Int)) = true := cpc
   have HEO := am (show out1 = r from (rep_stop _ _ F1 f2 q p j out1 hqf hpj).symm.trans HSC.out)
   go_wp2
   first | go_end0 | ((try simp only [Exit.inBlock, Exit.then]); refine bodyPost_ret (results_none rfl _ _ _) rfl ?_)
   exact ⟨_, rfl, ⟨HB.out, HG.out, HN.out, HZ.out, D_G_Z.out, D_N_Z.out⟩, (by rw [← HEO.out]; exact HO.out), HM1.out, HM2.out, HK.out⟩
 have k6 : (f0 == 6) = false := bnf (by omega)
 have k8 : (f0 == 8) = false := bnf (by omega)
 have k7 : (f0 == 7) = false := bnf (by omega)
 have k9 : (f0 == 9) = false := bnf (by omega)
 have HSN := am (show out = r from (sp_none (imTx T) T.size f0 f1 f2 f3 l i j out (by omega) (by omega) (by omega) (by omega)).symm.trans HRS.out)
 replace jG := HG.out.c5
 replace jX51 := HX51.out.c1
 replace jX52 := HX52.out.c1
 replace jX53 := HX53.out.c1
 replace jX54 := HX54.out.c1
 replace jXN := HXN.out.c6
 go_wp2
 first | go_end0 | ((try simp only [Exit.inBlock, Exit.then]); refine bodyPost_ret (results_none rfl _ _ _) rfl ?_)
 exact ⟨_, rfl, ⟨HB.out, HG.out, HN.out, HE.out, D_G_E.out, D_N_E.out⟩, (by rw [← HSN.out]; exact HO.out), HM1.out, HM2.out, HK.out⟩
end
end Go.Proofs.Ytlpabbcgichaoaa.PFnExactFind
