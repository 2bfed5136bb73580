/- The program's matcher: find. -/
import Derived.Test.YtlpabbcgichaoaaImTFnExactFind
import Derived.Test.YtlpabbcgichaoaaWWords
namespace Go.Proofs.Ytlpabbcgichaoaa.PFnExactFind
open Go.RowKit Go.Proofs.Ytlpabbcgichaoaa.Lawful Go.Proofs.YtlpabbcgichaoaaW.PrintWords Go.Proofs.YtlpabbcgichaoaaW.PrintLast Go.Proofs.YtlpabbcgichaoaaW.PrintMore
attribute [local go_sem] max2_int min2_int max_two min_two max_three min_three max_four min_four
set_option maxHeartbeats 16000000
set_option maxRecDepth 100000
set_option linter.unusedVariables false
set_option linter.unusedSimpArgs false
section
open Go.Proofs.Ytlpabbcgichaoaa.Lawful
@[reducible] def imE.FPost (E : imE) (w ws : World) (PE : Nat → Prop) (r : List Int) (e : Ending) (w' : World) : Prop :=
 ∃ (v VG' : Value) (PE' P : Nat → Prop), e = .returned v ∧ E.At w w' PE' VG' ∧ LR (Kd.int .i64) 3 w' w.heap.size P v r ∧ (∀ k, P k → ws.heap.size ≤ k) ∧ ((r = [] ∧ v = .slice none 0 0) ∨ (r ≠ [] ∧ ∃ (g n c : Nat), v = .slice (some ⟨g, 0, none⟩) n c)) ∧ (∀ k, PE' k → ¬ P k) ∧ (∀ k, PE k → PE' k) ∧ (∀ k, PE' k → PE k ∨ ws.heap.size ≤ k) ∧ Kept ws w' (fun k_ => (k_ = E.gE ∨ k_ = E.gR) ∨ E.PG k_)
theorem if_info3 : (Try.prog.info? 3).map (fun i => (i.zero, i.size, i.bytes)) = some (some (.int .i64 0), 1, 8) := by kernel_rfl
section
variable {P : Program} {ops : Array Oper} {rest : List Oper} {o : Oper} {a : Act} {Q : Exit → Act → World → Prop} {Kc : Act → World → Prop} {w0 W : World} {P1 : Nat → Prop}
theorem ip_put {g n c : Nat} {kn : List Int} (H : LR (Kd.int .i64) 3 W w0.heap.size P1 (.slice (some ⟨g, 0, none⟩) n c) kn) (hB : Below w0.heap.size w0 W) (i : Nat) (hi : i < n) (x : Int) (hgd : o.guard = none) {t : TypeId} {p : Tmp} {y : Operand} (hN : o.dst = none) (ho : o.op = .store t (.tmp p) y)
  (hrun : (execOp a.eval o).run P W = .ok .skip (W.setCell ⟨g, i, none⟩ (.int .i64 x)))
  (h : ∀ w2, LR (Kd.int .i64) 3 w2 w0.heap.size P1 (.slice (some ⟨g, 0, none⟩) n c) (kn.set i x) → Kept W w2 P1 → Below w0.heap.size w0 w2 → wpList P ops Q rest a w2) : wpList P ops Q (o :: rest) a W := by
 have hl : n = kn.length := H.len
 have hp := Kd.R_putg H.1 (i : Int) x
 rw [Int.toNat_natCast] at hp
 obtain ⟨g', c', he, hge, hlt, _⟩ := Kd.R_form H.1 (by omega)
 injection he with he1 _ _
 injection he1 with he1
 injection he1 with he1 _ _
 subst he1
 have hk : Kept W (W.setCell ⟨g, i, none⟩ (.int .i64 x)) P1 := Kept.of_grown hp.2 (Kept.refl W P1) (fun k hk_ => by injection hk_ with hk_; subst hk_; exact .inl (H.1.1 _ rfl))
 refine store_event hgd ho hN hrun (fun w' hw => ?_)
 subst hw
 exact h _ (H.wrote hp.1 hk) hk (below_set hB hge)
theorem neg_step (n q : Nat) (h : q < n) : (List.replicate q (-1 : Int) ++ List.replicate (n - q) 0).set q (-1) = List.replicate (q + 1) (-1 : Int) ++ List.replicate (n - (q + 1)) 0 := by
 obtain ⟨d, hd⟩ : ∃ d, n - q = d + 1 := ⟨n - q - 1, by omega⟩
 rw [List.set_append_right _ _ (by simp), List.length_replicate, Nat.sub_self, hd, List.replicate_succ, List.set_cons_zero, show n - (q + 1) = d by omega, List.replicate_succ', List.append_assoc]
 rfl
end
def impl_find.T16 : Bool × List (List Nat × List Nat) := (true, [([], []), ([0], [0]), ([1], [1]), ([2], [2]), ([], []), ([4], [4]), ([5], [5]), ([6], [6]), ([], []), ([], []), ([3, 0, 1, 2, 3, 7, 8], [3]), ([10, 8, 0, 1, 2, 3, 7, 8], [8, 10]), ([7, 0, 1, 2, 3, 4, 5, 6, 7, 8, 9, 10, 11], [7]), ([12, 9, 11, 0, 1, 2, 3, 4, 5, 6, 7, 8, 9, 10, 11], [9, 12])])
def impl_find.B16 : List Nat := [0, 1, 3, 7, 0, 16, 48, 112, 0, 0, 511, 1535, 4095, 8191]
theorem impl_find.tab16 : rtab .any (opsOf Try.f31 16) = impl_find.T16 := by kernel_rfl
theorem impl_find.bits16 : waitsOk impl_find.T16.2 impl_find.B16 = true := by kernel_rfl
theorem impl_find (E : imE) (w : World) (hok : E.Ok w) (hgG : w.heap.size ≤ E.gG) (hGN : ∀ k, E.PG k → ¬ E.PN k) (x : S31) (ks0 : List Int) (hn0 : E.ns[0]? = some (x, ks0)) (gs : Nat) (hgs : impl_groupsOf.f x.f0 x.f1 x.f2 x.f3 x.f4 = some (gs : Int)) (h9 : gs ≤ 1000) (hgr : grI E.ns gs = true) (p0 : Nat) (hp0 : p0 ≤ E.T.size) (ws : World) (PE : Nat → Prop) (VG : Value) (hAt : E.At w ws PE VG) :
  Calls Try.prog 31 #[.pointer (some ⟨E.gG, 0, none⟩), .int .i64 (p0 : Int)] ws (E.FPost w ws PE (findL (mat (imTx E.T) E.T.size x) (sp (imTx E.T) E.T.size x) gs E.T.size p0)) := by
 have HFR := am (fun (i : Nat) ws PE hi h => impl_from E w VG hok _ x (Nat.le_refl _) 0 ks0 i ws PE hn0 hi h)
 have HPR := am (fun (PO : Nat → Prop) (gO cO : Nat) hGO hNO (i j : Nat) (ws : World) (PE : Nat → Prop) (out : List Int) h1 h2 h3 => impl_part E w PO gO (2 * gs + 2) cO hok hGO hNO ⟨by omega, fun k y ks hk h6 => (grI_iff.1 hgr) k y ks hk h6⟩ _ x (Nat.le_refl _) 0 ks0 i j ws PE out hn0 h1 h2 h3)
 obtain ⟨PG, PN, gG, gE, gR, BN, DN, T, L, ns⟩ := E
 obtain ⟨hne, hL, hT, hgE, hgR, hns, hnaa, htree⟩ := hok
 dsimp only at hgG hGN hn0 hp0 hL hT HFR HPR ⊢
 have hu := Try.underlying74
 have hu2 := Try.underlying76
 have hu3 := Try.underlying31
 have HL := am hL
 have SZ := am (show T.size ≤ 120 ∧ p0 ≤ T.size ∧ gs ≤ 1000 from ⟨hT, hp0, h9⟩)
 have GEG := am hgG
 have D_G_N := am hGN
 have HN0 := am hn0
 have EG := am hgs
 have RRG := am (show ∀ k_, PG k_ → (fun k_ => (k_ = gE ∨ k_ = gR) ∨ PG k_) k_ ∨ ws.heap.size ≤ k_ from fun _ h => .inl (.inr h))
 have hnl : 0 < ns.length := (List.getElem?_eq_some_iff.1 hn0).1
 have n1_ := il hnl
 have n2_ := eq_true hnl
 have HNL := am hnl
 clear hne hL hT hgE hgR hns hnaa htree hn0 hgs h9 hgr hgG hGN hp0 hnl
 obtain ⟨hb_, hg_, hn_, he_, hge_, hne_⟩ := hAt
 dsimp only at hb_ hg_ hn_ he_ hge_ hne_
 have HB := am hb_
 have HG := am hg_
 have HN := am hn_
 have HE := am he_
 have D_G_E := am hge_
 have D_N_E := am hne_
 have HK := am (Kept.refl ws (fun k_ => (k_ = gE ∨ k_ = gR) ∨ PG k_))
 have HM1 := am (show ∀ k, PE k → PE k from fun _ h => h)
 have HM2 := am (show ∀ k, PE k → PE k ∨ ws.heap.size ≤ k from fun _ h => .inl h)
 clear hb_ hg_ hn_ he_ hge_ hne_
 obtain ⟨r, hr⟩ : ∃ r_, r_ = findL (mat (imTx T) T.size x) (sp (imTx T) T.size x) gs T.size p0 := ⟨_, rfl⟩
 rw [← hr]
 have HRS := am hr
 clear hr
 replace jG := HG.out.c5
 go_enter Try.func31, Try.ntmps31
 go_wp2
 go_loopg [5] (T.size + 2 - p0) (fun kq v5 w' => ∃ (p : Nat) (PE1 : Nat → Prop), v5 = .int .i64 (p : Int) ∧ Aside0 (p + kq = T.size + 2 ∧ p ≤ T.size + 1) ∧ Aside0 (findFrom (mat (imTx T) T.size x) T.size (T.size + 1 - p) p = findFrom (mat (imTx T) T.size x) T.size (T.size + 1 - p0) p0) ∧ Aside0 (Below w.heap.size w w') ∧ Aside0 (LB w' PG gG 74 #[.string T, .slice BN ns.length DN, .map (some gE), .map (some gR), VG]) ∧ Aside0 (LN kNA 76 w' w.heap.size PN (.slice BN ns.length DN) ns) ∧ Aside0 (imK ⟨PG, PN, gG, gE, gR, BN, DN, T, L, ns⟩ w' PE1) ∧ Aside0 (∀ k, PG k → ¬ PE1 k) ∧ Aside0 (∀ k, PN k → ¬ PE1 k) ∧ Aside0 (Kept ws w' (fun k_ => (k_ = gE ∨ k_ = gR) ∨ PG k_)) ∧ Aside0 (∀ k, PE k → PE1 k) ∧ Aside0 (∀ k, PE1 k → PE k ∨ ws.heap.size ≤ k))
 case atStart => exact ⟨p0, _, rfl, ⟨by have := SZ.out; omega⟩, ⟨rfl⟩, HB, HG, HN, HE, ⟨D_G_E.out⟩, ⟨D_N_E.out⟩, HK, HM1, HM2⟩
 case round =>
  clear HB HK HM1 HM2 HG HN HE
  clear D_G_E D_N_E
  try clear jG
  obtain ⟨p, PZ, rfl, HP, HFF, HB, HG, HN, HZ, D_G_Z, D_N_Z, HK, HM1, HM2⟩ := hrel
  replace jG := HG.out.c5
  by_cases hlt : p ≤ T.size
  ·
   obtain ⟨k1, rfl⟩ : ∃ k_, gk = k_ + 1 := ⟨gk - 1, by have := HP.out; omega⟩
   have cb1 : decide ((p : Int) ≤ (T.size : Int)) = true := decide_eq_true (by omega)
   have cb2 : decide (p ≤ T.size) = true := decide_eq_true hlt
   have HPT := am hlt
   clear hlt
   have hwp : wrap64 ((p : Int) + 1) = ((p + 1 : Nat) : Int) := wrap_nat rfl (by have := SZ.out; have := HPT.out; omega)
   have hwpk : IntKind.i64.wrap ((p : Int) + 1) = ((p + 1 : Nat) : Int) := (i64_w _).trans hwp
   have HF0 := HFR.out p
   rw [show ((0 : Nat) : Int) = 0 from rfl] at HF0
   have HF := am HF0
   clear HF0
   go_wp2_with (first | ((with_reducible refine gc 38 rfl ?_); refine gl_ (some 22) rfl rfl Try.func38 #[.pointer (some ⟨gG, 0, none⟩), .int .i64 0, .int .i64 (p : Int)] rfl rfl ?_; (with_reducible refine (HF.out _ _ HPT.out ⟨HB.out, HG.out, HN.out, HZ.out, D_G_Z.out, D_N_Z.out⟩).mono ?_); rintro e w2 ⟨PE51, AR, cR, rfl, ⟨hb_, hg_, hn_, he_, hge_, hne_⟩, hcl_, hF_, hm1_, hm2_, hkk_⟩; refine ⟨_, rfl, ?_⟩; dsimp only at hb_ hg_ hn_ he_ hge_ hne_ hcl_ hF_ hkk_; replace HM1 := hm1w HM1 hm1_; replace HM2 := hm2w HM2 hm2_ HK; have HR := am (imLN (base := w.heap.size) (rowOf_len' HL.out _) hcl_ hF_ (fun k h => he_.lt k h.1)); have D_R_K := drk PE51 gE gR; replace HK := am (HK.out.then_ hkk_ (fun _ h_ => .inl (.inl h_))); replace HB := am hb_; replace HG := am hg_; replace HN := am hn_; have HE51 := am he_; have D_G_E51 := am hge_; have D_N_E51 := am hne_; clear hb_ hg_ hn_ he_ hge_ hne_ hcl_ hF_ hm1_ hm2_ hkk_ HZ; replace jG := HG.out.c5))
   obtain ⟨adR, eR_, _⟩ := im_atN HR.out 0 (by have := HL.out; omega)
   subst eR_
   go_loopg [7] (T.size + 2 - p) (fun kq v7 w' => ∃ (t : Nat) (z : Int) (PE1 : Nat → Prop), v7 = .int .i64 z ∧ Aside0 (z = (t : Int) - 1) ∧ Aside0 (t + 1 = kq + p ∧ p ≤ t ∧ t ≤ T.size + 1) ∧ Aside0 (∀ q, t ≤ q → q ≤ T.size → (mat (imTx T) T.size x) p q = false) ∧ Aside0 (Below w.heap.size w w') ∧ Aside0 (LB w' PG gG 74 #[.string T, .slice BN ns.length DN, .map (some gE), .map (some gR), VG]) ∧ Aside0 (LN kNA 76 w' w.heap.size PN (.slice BN ns.length DN) ns) ∧ Aside0 (imK ⟨PG, PN, gG, gE, gR, BN, DN, T, L, ns⟩ w' PE1) ∧ Aside0 (LN Kd.bool 4 w' w.heap.size (fun k => PE51 k ∧ k ≠ gE ∧ k ≠ gR) (.slice (some adR) L cR) (rowOf T.size ((mat (imTx T) T.size x) p))) ∧ Aside0 (∀ k, PG k → ¬ PE1 k) ∧ Aside0 (∀ k, PN k → ¬ PE1 k) ∧ Aside0 (Kept ws w' (fun k_ => (k_ = gE ∨ k_ = gR) ∨ PG k_)) ∧ Aside0 (∀ k, PE k → PE1 k) ∧ Aside0 (∀ k, PE1 k → PE k ∨ ws.heap.size ≤ k))
   case atStart => exact ⟨T.size + 1, _, _, rfl, ⟨by omega⟩, ⟨by have := HPT.out; omega⟩, ⟨fun q h1 h2 => by omega⟩, HB, HG, HN, HE51, HR, ⟨D_G_E51.out⟩, ⟨D_N_E51.out⟩, HK, HM1, HM2⟩
   case round =>
    clear HB HK HM1 HM2 HG HN HE51 HR
    clear D_G_E51 D_N_E51
    try clear jG
    obtain ⟨t, z, PZ, rfl, HZZ, HT, HNO, HB, HG, HN, HZ, HR, D_G_Z, D_N_Z, HK, HM1, HM2⟩ := hrel
    replace jG := HG.out.c5
    by_cases hlt : p < t
    ·
     obtain ⟨q, rfl⟩ : ∃ q, t = q + 1 := ⟨t - 1, by omega⟩
     obtain ⟨k2, rfl⟩ : ∃ k_, gk = k_ + 1 := ⟨gk - 1, by have := HT.out; omega⟩
     obtain rfl : z = (q : Int) := by have := HZZ.out; omega
     have HQ := am (show p ≤ q ∧ q ≤ T.size ∧ q < L from by have := HT.out; have := HL.out; omega)
     have cb3 : decide ((q : Int) ≥ (p : Int)) = true := decide_eq_true (by omega)
     have cb3b : decide ((p : Int) ≤ (q : Int)) = true := cb3
     have cb4 : decide (p ≤ q) = true := decide_eq_true (by omega)
     have hw1 : wrap64 ((q : Int) - 1) = (q : Int) - 1 := by have := SZ.out; have := HQ.out; unfold wrap64; omega
     have hw1k : IntKind.i64.wrap ((q : Int) - 1) = (q : Int) - 1 := (i64_w _).trans hw1
     clear hlt
     have z1 := zn q
     have z2 := il HQ.out.2.2
     have z3 := eq_true HQ.out.2.2
     have HRV := rowOf_getD T.size ((mat (imTx T) T.size x) p) q HQ.out.2.1
     rcases hA : (mat (imTx T) T.size x) p q with _ | _
     ·
      rw [hA] at HRV
      have hr0 := ip_cellB HR.out q HQ.out.2.2 HRV
      go_wp2
      go_roundg k2
      case measure => have := HT.out; omega
      case rel => exact ⟨q, _, _, by first | rfl | exact congrArg (Value.int .i64) hw1, ⟨rfl⟩, ⟨by have := HT.out; have := HQ.out; omega⟩, ⟨fun q' h1 h2 => by rcases Nat.eq_or_lt_of_le h1 with h3 | h3; (subst h3; exact hA); exact HNO.out q' h3 h2⟩, HB, HG, HN, HZ, HR, ⟨D_G_Z.out⟩, ⟨D_N_Z.out⟩, HK, HM1, HM2⟩
     rw [hA] at HRV
     have hr0 := ip_cellB HR.out q HQ.out.2.2 HRV
     have HHE := am (findFrom_here HQ.out.1 HQ.out.2.1 hA HNO.out)
     have HA := am hA
     clear HRV
     go_upto_region 9 with (fail)
     clear HR D_R_K hr0 HNO
     obtain ⟨f0, f1, f2, f3, l⟩ := x
     obtain ⟨adN, A4, c4, A5, c5, eBN, ha0, ha1, ha2, ha3, ha4, ha5, hc4_, hC4_, _, _⟩ := at_NA HN.out.reads 0 HNL.out _ HN0.out
     subst eBN
     simp only [Nat.zero_mul, show adN.add 0 = adN from rfl] at ha0 ha1 ha2 ha3 ha4 ha5
     try dsimp only at ha0 ha1 ha2 ha3 ha4 ha5 hc4_ hC4_ EG
     replace jG := HG.out.c5
     obtain ⟨g2, hg2⟩ : ∃ z, z = 2 * gs := ⟨_, rfl⟩
     obtain ⟨n2, hn2⟩ : ∃ z, z = 2 * gs + 2 := ⟨_, rfl⟩
     have e1 : wrap64 (2 * (gs : Int)) = (g2 : Int) := wrap_nat (by rw [hg2]; omega) (by have := SZ.out; omega)
     have e2 : wrap64 ((g2 : Int) + 2) = (n2 : Int) := wrap_nat (by rw [hg2, hn2]; omega) (by have := SZ.out; omega)
     have e1k : IntKind.i64.wrap (2 * (gs : Int)) = (g2 : Int) := (i64_w _).trans e1
     have e2k : IntKind.i64.wrap ((g2 : Int) + 2) = (n2 : Int) := (i64_w _).trans e2
     have HN2 := am (show n2 = 2 * gs + 2 ∧ n2 ≤ 2002 from ⟨hn2, by have := SZ.out; omega⟩)
     clear hg2 hn2
     obtain ⟨zs, hzs⟩ : ∃ z_ : List Int, z_ = List.replicate n2 0 := ⟨_, rfl⟩
     have Nzs := am hzs
     clear hzs
     go_upto_region 10 with (first | ((with_reducible refine gc 45 rfl ?_); refine goesL_ (some 45) rfl rfl Try.func45 (by kernel_rfl) rfl #[.agg #[.int .i64 f0, .int .i64 f1, .int .i64 f2, .string f3, .slice A4 l.length c4]] rfl tA ?_; (with_reducible refine (impl_groupsOf.calls f0 f1 f2 f3 _ _ l (gs : Int) _ hC4_ hc4_ EG.out).mono ?_); rintro e w2 ⟨rfl, hb⟩; refine ⟨_, rfl, ?_⟩; have hk := kept_below hb; replace HG := sn hk HG; replace HN := nn hk HN; replace HZ := am (HZ.out.step hk no_S); replace HK := kt HK hk; replace HB := bs HB hb; clear hb hk; replace jG := HG.out.c5))
     go_wp2_with (first | ((with_reducible refine gd 50 rfl ?_); refine Kd.R_make (Kd.int .i64) _ 3 rfl (N := 50) rfl 26 _ _ rfl (n2 : Int) rfl rfl Try.underlying26 (.int .i64 0) 8 if_info3 rfl (by decide) (by omega) 0 (ok := fun _ => True) (okp := fun _ => True) rfl (fun _ hk => hk) trivial (Int.natCast_nonneg _) (by rw [Int.toNat_natCast]; have := HN2.out; omega) (Below.refl _ _) (Nat.le_refl _) ?_; intro vO w2 hrO hb hg_ hnew_; clear hg_ hnew_; rw [Int.toNat_natCast, ← Nzs.out] at hrO; have hk := kept_below hb; obtain ⟨PO, hPO, HLO⟩ := LR.fresh rfl HB.out hrO; have HO := am HLO; clear HLO hrO; have D_G_O := na hPO HG; have D_N_O := nl hPO HN.out.lt; have D_Z_O := nl hPO HZ.out.lt; have RRO := ra HK hPO; replace HG := sn hk HG; replace HN := nn hk HN; replace HZ := am (HZ.out.step hk no_S); replace HK := kt HK hk; clear hPO; obtain ⟨BOO, cO, e_O⟩ := HO.out.val; subst e_O; replace HB := bs HB hb; clear hb hk; have hzl_ : zs.length = n2 := (by rw [Nzs.out, List.length_replicate]); obtain ⟨gO, cq_, he_, _, _, _⟩ := Kd.R_form HO.out.1 (by have := HN2.out; omega); injection he_ with ea_ el_ ec_; subst ea_ ec_; clear el_; rw [hzl_] at HO ⊢; clear hzl_; replace jG := HG.out.c5) | ((with_reducible refine gate_store (t := 26) (p := 52) rfl ?_); refine LB.stored HG.out HB.out GEG.out 4 [.slice (some ⟨gO, 0, none⟩) n2 cO] rfl (t := 26) (p := 52) rfl rfl ?hr_2 ?_; (case hr_2 => first | (go_simp; done) | (go_simp; simp only [World.setCells, Nat.reduceAdd, Nat.zero_add]; done)); intro w2 hx hk hb; replace HN := ns_ hk HN (apart_symm D_G_N.out); replace HZ := am (HZ.out.step hk (apart_symm D_G_Z.out)); replace HO := rs hk HO (apart_symm D_G_O.out); replace HK := kr HK hk RRG; replace HB := am hb; replace HG := am (show LB w2 PG gG 74 #[.string T, .slice (some adN) ns.length DN, .map (some gE), .map (some gR), .slice (some ⟨gO, 0, none⟩) n2 cO] from hx); clear hk hx hb; replace jG := HG.out.c5))
     go_loopg [58] (n2 + 1) (fun kq v58 w' => ∃ (q1 : Nat) (PE1 : Nat → Prop), v58 = .int .i64 (q1 : Int) ∧ Aside0 (q1 + kq = n2 + 1 ∧ 0 < kq) ∧ Aside0 (Below w.heap.size w w') ∧ Aside0 (LB w' PG gG 74 #[.string T, .slice (some adN) ns.length DN, .map (some gE), .map (some gR), .slice (some ⟨gO, 0, none⟩) n2 cO]) ∧ Aside0 (LN kNA 76 w' w.heap.size PN (.slice (some adN) ns.length DN) ns) ∧ Aside0 (imK ⟨PG, PN, gG, gE, gR, some adN, DN, T, L, ns⟩ w' PE1) ∧ Aside0 (LR (Kd.int .i64) 3 w' w.heap.size PO (.slice (some ⟨gO, 0, none⟩) n2 cO) (List.replicate q1 (-1) ++ List.replicate (n2 - q1) 0)) ∧ Aside0 (∀ k, PG k → ¬ PE1 k) ∧ Aside0 (∀ k, PN k → ¬ PE1 k) ∧ Aside0 (∀ k, PO k → ¬ PE1 k) ∧ Aside0 (Kept ws w' (fun k_ => (k_ = gE ∨ k_ = gR) ∨ PG k_)) ∧ Aside0 (∀ k, PE k → PE1 k) ∧ Aside0 (∀ k, PE1 k → PE k ∨ ws.heap.size ≤ k))
     case atStart => exact ⟨0, _, rfl, ⟨by omega, by omega⟩, HB, HG, HN, HZ, ⟨by have h_ := HO.out; rw [Nzs.out] at h_; exact h_⟩, ⟨D_G_Z.out⟩, ⟨D_N_Z.out⟩, ⟨(apart_symm D_Z_O.out)⟩, HK, HM1, HM2⟩
     case round =>
      clear HB HK HM1 HM2 HG HN HZ HO
      clear D_G_Z D_N_Z D_Z_O
      try clear jG
      obtain ⟨q1, PZ, rfl, HX, HB, HG, HN, HZ, HO, D_G_Z, D_N_Z, D_O_Z, HK, HM1, HM2⟩ := hrel
      replace jG := HG.out.c5
      by_cases hlt : q1 < n2
      ·
       obtain ⟨k3, rfl⟩ : ∃ k_, gk = k_ + 1 := ⟨gk - 1, by have := HX.out; omega⟩
       have HE2 := am (show q1 + 1 + k3 = n2 + 1 ∧ 0 < k3 ∧ q1 < n2 from by have := HX.out; exact ⟨by omega, by omega, hlt⟩)
       have hwe : wrap64 ((q1 : Int) + 1) = ((q1 + 1 : Nat) : Int) := wrap_nat rfl (by have := HN2.out; omega)
       have hwek : IntKind.i64.wrap ((q1 : Int) + 1) = ((q1 + 1 : Nat) : Int) := (i64_w _).trans hwe
       have u1 := zn q1
       have u2 := il hlt
       have u3 := eq_true hlt
       have u2d := dl hlt
       have u3d := decide_eq_true hlt
       clear hlt
       obtain ⟨oy0, oy1⟩ := ip_at HO.out q1 HE2.out.2.2
       go_wp2_with (first | ((with_reducible refine gate_store (t := 3) (p := 66) rfl ?_); refine ip_put HO.out HB.out q1 HE2.out.2.2 (-1) rfl (t := 3) (p := 66) rfl rfl ?hr_3 ?_; (case hr_3 => first | (go_simp; done) | (go_simp; simp only [World.setCells, Nat.reduceAdd, Nat.zero_add]; done)); intro w2 hx hk hb; clear oy0 oy1; replace HG := ss hk HG D_G_O.out; replace HN := ns_ hk HN D_N_O.out; replace HZ := am (HZ.out.step hk (apart_symm D_O_Z.out)); replace HK := kr HK hk RRO; replace HB := am hb; replace HO := am hx; clear hk hx hb; replace jG := HG.out.c5))
       go_roundg k3
       case measure => omega
       case rel => exact ⟨q1 + 1, _, by first | rfl | exact congrArg (Value.int .i64) hwe, ⟨HE2.out.1, HE2.out.2.1⟩, HB, HG, HN, HZ, ⟨by have h_ := HO.out; rw [neg_step n2 q1 HE2.out.2.2] at h_; exact h_⟩, ⟨D_G_Z.out⟩, ⟨D_N_Z.out⟩, ⟨D_O_Z.out⟩, HK, HM1, HM2⟩
      obtain rfl : q1 = n2 := by have := HX.out; omega
      have u2d : decide ((q1 : Int) < (q1 : Int)) = false := decide_eq_false (by omega)
      have u3d : decide (q1 < q1) = false := decide_eq_false (by omega)
      have HO2 := HO.out
      rw [Nat.sub_self, List.replicate_zero, List.append_nil] at HO2
      replace HO := am HO2
      clear HO2
      have h2q := HN2.out
      have u4 := eq_true (show (0 : Int) < (q1 : Int) by omega)
      have u5 := eq_true (show 0 < q1 by omega)
      have u6 := eq_true (show (1 : Int) < (q1 : Int) by omega)
      have u7 := eq_true (show 1 < q1 by omega)
      have HQ0 := am (show 0 < q1 ∧ 1 < q1 by omega)
      clear h2q hlt
      replace jG := HG.out.c5
      go_upto_region 16 with (fail)
      refine sr (n := 14) (S := fun w' => w'.cell? ⟨gG, 4, none⟩ = some (.slice (some ⟨gO, 0, none⟩) q1 cO)) (ds := [13]) jG.2.2.2.2.2.2.2.2.1 (fun hHeld => ?_)
      refine with_tabW impl_find.tab16 impl_find.bits16 (fun HT_ HW_ => ?_)
      generalize hwd_ : World.drew wr = wd_ at hHeld ⊢
      have hk := kept_drew hwd_
      replace HG := sn hk HG
      replace HN := nn hk HN
      replace HZ := am (HZ.out.step hk no_S)
      replace HO := rn hk HO
      replace HK := kt HK hk
      replace HB := bd HB hwd_
      clear hk hwd_
      replace jG := HG.out.c5
      refine pu 0 68 HT_.out rfl rfl rfl ?_
      refine pu 1 69 HT_.out rfl rfl rfl ?_
      refine pu 2 70 HT_.out rfl rfl rfl ?_
      refine take_ (i := 3) (N := some 71) (v := ?_) (a' := ?_) #[true, true, true, true, false, false, false, false, false, false, false, false, false, false] rfl rfl (take_ofW HT_.out HW_.out (by kernel_rfl)) (fun _ _ _ h => h) (Or.inl ⟨by rfl, ?_⟩) hHeld ?_ ?_
      rotate_left
      ·
       rintro w' s0
       go_simp
       with_reducible rfl
      rotate_left
      ·
       simp only [Act.put, List.setIfInBounds_toArray, List.set_cons_zero, List.set_cons_succ, i64_w, i32_w]
       rfl
      refine pu 4 72 HT_.out rfl rfl rfl ?_
      refine pu 5 73 HT_.out rfl rfl rfl ?_
      refine pu 6 74 HT_.out rfl rfl rfl ?_
      refine take_ (i := 7) (N := some 75) (v := ?_) (a' := ?_) #[true, true, true, true, true, true, true, true, false, false, false, false, false, false] rfl rfl (take_ofW HT_.out HW_.out (by kernel_rfl)) (fun _ _ _ h => h) (Or.inl ⟨by rfl, ?_⟩) hHeld ?_ ?_
      rotate_left
      ·
       rintro w' s0
       go_simp
       with_reducible rfl
      rotate_left
      ·
       simp only [Act.put, List.setIfInBounds_toArray, List.set_cons_zero, List.set_cons_succ, i64_w, i32_w]
       rfl
      refine pu 8 76 HT_.out rfl rfl rfl ?_
      refine pu 9 77 HT_.out rfl rfl rfl ?_
      refine pu 10 78 HT_.out rfl rfl rfl ?_
      refine on_ 11 none HT_.out rfl rfl fun K hK => ?_
      obtain ⟨oy0, oy1⟩ := ip_at HO.out 0 HQ0.out.1
      refine ip_put_step HO.out HB.out 0 HQ0.out.1 (p : Int) (by rfl) rfl ?hr_4 ?_
      (case hr_4 => first | (go_simp; done) | (go_simp; simp only [World.setCells, Nat.reduceAdd, Nat.zero_add]; done))
      intro w2 hx hk hb
      clear oy0 oy1
      replace HG := ss hk HG D_G_O.out
      replace HN := ns_ hk HN D_N_O.out
      replace HZ := am (HZ.out.step hk (apart_symm D_O_Z.out))
      replace HK := kr HK hk RRO
      replace HB := am hb
      replace HO := am hx
      clear hk hx hb
      replace jG := HG.out.c5
      refine hK.out _ _ jG.2.2.2.2.2.2.2.2.1 (fun hHeld => ?_)
      clear hK K
      refine pu 12 79 HT_.out rfl rfl rfl ?_
      refine la_ 13 none HT_.out rfl rfl fun K hK => ?_
      obtain ⟨oy0, oy1⟩ := ip_at HO.out 1 HQ0.out.2
      refine ip_put_step HO.out HB.out 1 HQ0.out.2 (q : Int) (by rfl) rfl ?hr_5 ?_
      (case hr_5 => first | (go_simp; done) | (go_simp; simp only [World.setCells, Nat.reduceAdd, Nat.zero_add]; done))
      intro w2 hx hk hb
      clear oy0 oy1
      replace HG := ss hk HG D_G_O.out
      replace HN := ns_ hk HN D_N_O.out
      replace HZ := am (HZ.out.step hk (apart_symm D_O_Z.out))
      replace HK := kr HK hk RRO
      replace HB := am hb
      replace HO := am hx
      clear hk hx hb
      replace jG := HG.out.c5
      refine hK.out _ _ ?_
      clear hK K
      refine dn HT_ ?_
      have hrow_ : ((List.replicate q1 (-1 : Int)).set 0 (p : Int)).set 1 (q : Int) = (p : Int) :: (q : Int) :: List.replicate (2 * gs) (-1) := by rw [HN2.out.1]; rfl
      rw [hrow_] at HO
      clear hrow_
      have hq1 := HN2.out.1
      subst hq1
      have IP0 := HPR.out PO gO cO D_G_O.out D_N_O.out p q
      try dsimp only at IP0
      rw [show ((0 : Nat) : Int) = 0 from rfl] at IP0
      have IP := am IP0
      clear IP0
      have HSV := am (show sp (imTx T) T.size (⟨f0, f1, f2, f3, l⟩ : S31) p q ((p : Int) :: (q : Int) :: List.replicate (2 * gs) (-1)) = r from by rw [HRS.out]; unfold findL; rw [← HFF.out, HHE.out])
      replace jG := HG.out.c5
      go_wp2_with (first | ((with_reducible refine gc 46 rfl ?_); refine gl_ (some 83) rfl rfl Try.func46 #[.pointer (some ⟨gG, 0, none⟩), .int .i64 0, .int .i64 (p : Int), .int .i64 (q : Int)] rfl rfl ?_; (with_reducible refine (IP.out _ _ _ HQ.out.1 HQ.out.2.1 HA.out ⟨HB.out, HG.out, HN.out, HZ.out, D_G_Z.out, D_N_Z.out⟩ HO.out (apart_symm D_O_Z.out)).mono ?_); rintro e w2 ⟨PE52, rfl, ⟨hb_, hg_, hn_, he_, hge_, hne_⟩, ho_, hm1_, hm2_, hkk_⟩; refine ⟨_, rfl, ?_⟩; dsimp only at hb_ hg_ hn_ he_ hge_ hne_ ho_ hkk_; have D_O_E52 := ax hm2_ HO.out.lt D_O_Z; replace HM1 := hm1w HM1 hm1_; replace HM2 := hm2w HM2 hm2_ HK; replace HK := am (HK.out.then_ hkk_ (fun k h_ => h_.elim (fun h2_ => .inl (.inl h2_)) (fun h2_ => RRO.out k h2_))); replace HB := am hb_; replace HG := am hg_; replace HN := am hn_; have HE52 := am he_; have D_G_E52 := am hge_; have D_N_E52 := am hne_; replace HO := am ho_; clear hb_ hg_ hn_ he_ hge_ hne_ ho_ hm1_ hm2_ hkk_ HZ; replace jG := HG.out.c5))
      rw [HSV.out] at HO
      go_ret
      have hne_ : r ≠ [] := fun h_ => by have h2_ := HO.out.len; rw [h_] at h2_; exact absurd h2_ (by simp)
      exact ⟨_, _, _, PO, rfl, ⟨HB.out, HG.out, HN.out, HE52.out, D_G_E52.out, D_N_E52.out⟩, HO.out, fun k h_ => (RRO.out k h_).resolve_left (fun h2_ => h2_.elim (fun h3_ => h3_.elim (fun h4_ => D_O_E52.out k h_ (h4_ ▸ HE52.out.1.1)) (fun h4_ => D_O_E52.out k h_ (h4_ ▸ HE52.out.1.2))) (fun h3_ => D_G_O.out k h3_ h_)), .inr ⟨hne_, gO, _, cO, rfl⟩, (apart_symm D_O_E52.out), HM1.out, HM2.out, HK.out⟩
    obtain rfl : t = p := by have := HT.out; omega
    obtain rfl : z = (t : Int) - 1 := HZZ.out
    have cb3 : decide ((t : Int) - 1 ≥ (t : Int)) = false := decide_eq_false (by omega)
    have cb4 : decide ((t : Int) ≤ (t : Int) - 1) = false := cb3
    have HFS := am ((findFrom_step HPT.out HNO.out).symm.trans HFF.out)
    go_wp2
    go_roundg k1
    case measure => have := HP.out; omega
    case rel => exact ⟨t + 1, _, by first | rfl | exact congrArg (Value.int .i64) hwp, ⟨by have := HP.out; have := HPT.out; omega⟩, HFS, HB, HG, HN, HZ, ⟨D_G_Z.out⟩, ⟨D_N_Z.out⟩, HK, HM1, HM2⟩
  obtain rfl : p = T.size + 1 := by have := HP.out; omega
  have cb1 : decide (((T.size + 1 : Nat) : Int) ≤ (T.size : Int)) = false := decide_eq_false (by omega)
  have cb2 : decide ((T.size : Int) + 1 ≤ (T.size : Int)) = false := decide_eq_false (by omega)
  have HEN := am (show r = [] from by rw [HRS.out]; unfold findL; rw [← HFF.out, findFrom_end (Nat.lt_succ_self _)])
  go_wp2
  go_ret
  exact ⟨_, _, _, fun _ => False, rfl, ⟨HB.out, HG.out, HN.out, HZ.out, D_G_Z.out, D_N_Z.out⟩, (by rw [HEN.out]; exact LR.nil _ _ _ _), fun _ h => h.elim, .inl ⟨HEN.out, rfl⟩, fun _ _ h => h, HM1.out, HM2.out, HK.out⟩
end
end Go.Proofs.Ytlpabbcgichaoaa.PFnExactFind
