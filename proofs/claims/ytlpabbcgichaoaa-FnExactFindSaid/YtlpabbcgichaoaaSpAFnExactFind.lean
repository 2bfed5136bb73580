/- The reference's machine: spans. -/
import Derived.Test.YtlpabbcgichaoaaCanAFnExactFind
import Derived.Test.YtlpabbcgichaoaaMatFnExactFind
import Derived.Test.YtlpabbcgichaoaaWWords
namespace Go.Proofs.Ytlpabbcgichaoaa.PFnExactFind
open Go.RowKit Go.Proofs.Ytlpabbcgichaoaa.Lawful Go.Proofs.YtlpabbcgichaoaaW.PrintWords Go.Proofs.YtlpabbcgichaoaaW.PrintLast Go.Proofs.YtlpabbcgichaoaaW.PrintMore
attribute [local go_sem] max2_int min2_int max_two min_two max_three min_three max_four min_four
set_option maxHeartbeats 16000000
set_option maxRecDepth 100000
set_option linter.unusedVariables false
set_option linter.unusedSimpArgs false
section
open Go.Proofs.Ytlpabbcgichaoaa.Lawful
section
variable {P : Program} {ops : Array Oper} {rest : List Oper} {o : Oper} {a : Act} {Q : Exit → Act → World → Prop} {w0 W : World} {P1 : Nat → Prop}
theorem sp_at {g n c : Nat} {kn : List Int} (H : LR (Kd.int .i64) 3 W w0.heap.size P1 (.slice (some ⟨g, 0, none⟩) n c) kn) (i : Nat) (h : i < n) : W.cell? ⟨g, i, none⟩ = some (.int .i64 (kn.getD i 0)) ∧ W.frozen? ⟨g, i, none⟩ = false := by
 have := Kd.R_celln 0 H.1 (i : Int) (by omega) (by omega)
 rw [Int.toNat_natCast] at this
 refine ⟨?_, this.2⟩
 rw [this.1]
 simp [rdOf]
theorem sp_put {g n c : Nat} {kn : List Int} (H : LR (Kd.int .i64) 3 W w0.heap.size P1 (.slice (some ⟨g, 0, none⟩) n c) kn) (hB : Below w0.heap.size w0 W) (i : Nat) (hi : i < n) (x : Int) (hgd : o.guard = none) {t : TypeId} {p : Tmp} {y : Operand} (hN : o.dst = none) (ho : o.op = .store t (.tmp p) y)
  (hrun : (execOp a.eval o).run P W = .ok .skip (W.setCell ⟨g, i, none⟩ (.int .i64 x)))
  (h : ∀ w2, LR (Kd.int .i64) 3 w2 w0.heap.size P1 (.slice (some ⟨g, 0, none⟩) n c) (kn.set i x) → Kept W w2 P1 → Below w0.heap.size w0 w2 → wpList P ops Q rest a w2) : wpList P ops Q (o :: rest) a W := by
 have hl : n = kn.length := H.len
 have hp := Kd.R_putg H.1 (i : Int) x
 rw [Int.toNat_natCast] at hp
 obtain ⟨g', c', he, hge, hlt, _⟩ := Kd.R_form H.1 (by omega)
 injection he with he1 _ _
 injection he1 with he1
 injection he1 with he1 _ _
 subst he1
 have hk : Kept W (W.setCell ⟨g, i, none⟩ (.int .i64 x)) P1 := Kept.of_grown hp.2 (Kept.refl W P1) (fun k hk_ => by injection hk_ with hk_; subst hk_; exact .inl (H.1.1 _ rfl))
 refine store_event hgd ho hN hrun (fun w' hw => ?_)
 subst hw
 exact h _ (H.wrote hp.1 hk) hk (below_set hB hge)
end
@[reducible] def l06E.SpPost (E : l06E) (w ws : World) (PO : Nat → Prop) (gO L2 cO M : Nat) (r : List Int) (e : Ending) (w' : World) : Prop :=
 ∃ kn', e = .returned (.tuple #[]) ∧ RB E.den E.ns.length E.T.size kn' M ∧ E.At w w' kn' ∧ LR (Kd.int .i64) 3 w' w.heap.size PO (.slice (some ⟨gO, 0, none⟩) L2 cO) r ∧ Kept ws w' (fun k_ => E.PK k_ ∨ PO k_)
def l06E.Gr (E : l06E) (L2 : Nat) : Prop := L2 < 4611686018427387904 ∧ ∀ (q : Nat) (x : S85), E.ns[q]? = some x → x.f0 = 6 → 0 ≤ x.f1 ∧ 2 * x.f1 + 1 < (L2 : Int)
def l06E.Spans (E : l06E) (w : World) (m M : Nat) : Prop := ∀ (k i j : Nat) (kn : List Int) (ws : World) (PO : Nat → Prop) (gO L2 cO : Nat) (out : List Int), k < m → k < E.ns.length → i ≤ j → j ≤ E.T.size → E.den k i j = true → E.Gr L2 → E.At w ws kn → RB E.den E.ns.length E.T.size kn M → LR (Kd.int .i64) 3 ws w.heap.size PO (.slice (some ⟨gO, 0, none⟩) L2 cO) out → (∀ q, E.PG q → ¬ PO q) → (∀ q, E.PN q → ¬ PO q) → (∀ q, E.PK q → ¬ PO q) →
 Calls Try.prog 41 #[.pointer (some ⟨E.gG, 0, none⟩), .int .i64 (k : Int), .int .i64 (i : Int), .int .i64 (j : Int), .slice (some ⟨gO, 0, none⟩) L2 cO] ws (E.SpPost w ws PO gO L2 cO M (E.spf k i j out))
theorem spec_span1 (E : l06E) (w : World) (hok : E.Ok) (M : Nat) (hM : ∀ q i j, q < E.ns.length → i ≤ j → j ≤ E.T.size → mu E.T.size q i j < M) (k : Nat) (hS : E.Spans w k M) (i j : Nat) (kn : List Int) (ws : World) (PO : Nat → Prop) (gO L2 cO : Nat) (out : List Int) (hk : k < E.ns.length) (hij : i ≤ j) (hj : j ≤ E.T.size) (hden : E.den k i j = true) (hgr : E.Gr L2) (hAt : E.At w ws kn) (hR : RB E.den E.ns.length E.T.size kn M) (hO : LR (Kd.int .i64) 3 ws w.heap.size PO (.slice (some ⟨gO, 0, none⟩) L2 cO) out) (hd1 : ∀ q, E.PG q → ¬ PO q) (hd2 : ∀ q, E.PN q → ¬ PO q) (hd3 : ∀ q, E.PK q → ¬ PO q) :
  Calls Try.prog 41 #[.pointer (some ⟨E.gG, 0, none⟩), .int .i64 (k : Int), .int .i64 (i : Int), .int .i64 (j : Int), .slice (some ⟨gO, 0, none⟩) L2 cO] ws (E.SpPost w ws PO gO L2 cO M (E.spf k i j out)) := by
 have hAny := spec_any E w hok
 have hSpl := fun a b i j least h1 h2 h3 h4 h5 h6 h7 h8 => spec_split E w M (hAny M) a b i j least h1 h2 h3 h4 h5 h6 h7 h8
 obtain ⟨PG, PN, PK, gG, gK, BN, DN, L, cK, ns, T, den, spf⟩ := E
 have hu := Try.underlying82
 have hu2 := Try.underlying85
 obtain ⟨hb_, hg_, hn_, hk_⟩ := hAt
 dsimp only at hb_ hg_ hn_ hk_
 obtain ⟨hgood, hbig, hset, hdG, hdN, hT⟩ := hok
 dsimp only at hgood hbig hset hdG hdN hT hk hj hR hden hgr hd1 hd2 hd3 hM hSpl ⊢
 have HB := am hb_
 have HG := am hg_
 have HN := am hn_
 have HY := am hk_
 have HO := am hO
 have HK := am (Kept.refl ws (fun k_ => PK k_ ∨ PO k_))
 have D_G_Y := am hdG
 have D_N_Y := am hdN
 have D_G_O := am hd1
 have D_N_O := am hd2
 have D_Y_O := am hd3
 have HRB := am hR
 have HGR := am hgr
 have HS := am hS
 have HM := am hM
 have HAN := am hAny
 have HSL := am hSpl
 have HL2 := am (show L2 < 4611686018427387904 from hgr.1)
 clear hb_ hg_ hn_ hk_ hO hdG hdN hd1 hd2 hd3 hR hS hM hAny hSpl
 have SZ := am (show k < ns.length ∧ i ≤ j ∧ j ≤ T.size ∧ T.size < 4611686018427387904 from ⟨hk, hij, hj, hT⟩)
 have pk := zn k
 have qk := il hk
 obtain ⟨x, hxk⟩ : ∃ x, ns[k]? = some x := ⟨_, List.getElem?_eq_getElem hk⟩
 obtain ⟨f0, f1, f2, f3, f4⟩ := x
 have hrd : rd_T85 ns (k : Int) = ⟨f0, f1, f2, f3, f4⟩ := by unfold rd_T85; rw [Int.toNat_natCast, List.getD_eq_getElem?_getD, hxk]; rfl
 obtain ⟨hnd, hkd, hmat, hspf⟩ := hgood k _ hxk
 obtain ⟨h30, h40, h3k, h4k⟩ := hnd
 have hg6 := hgr.2 k _ hxk
 dsimp only at h30 h40 h3k h4k hkd hmat hspf hg6
 obtain ⟨a, rfl⟩ : ∃ a : Nat, f3 = (a : Int) := ⟨f3.toNat, by omega⟩
 obtain ⟨b, rfl⟩ : ∃ b : Nat, f4 = (b : Int) := ⟨f4.toNat, by omega⟩
 rw [Int.toNat_natCast] at h3k
 rw [Int.toNat_natCast] at h4k
 have HDN := am hmat
 have HSP := am (hspf i j out)
 have HDK := am hden
 have H3 := am h3k
 have H4 := am h4k
 have H6 := am hg6
 obtain ⟨ad, ea, ha0, ha1, ha2, ha3, ha4⟩ := at_T85 HN.out.reads (k : Int) (Int.natCast_nonneg _) (Int.ofNat_lt.2 hk)
 subst ea
 simp only [hrd, Int.toNat_natCast] at ha0 ha1 ha2 ha3 ha4
 clear hgood hbig hset hT hxk hrd hmat hspf hden h30 h40 h3k h4k hk hij hj hgr hg6
 replace jG := HG.out.c3
 go_enter Try.func41, Try.ntmps41
 go_upto_region 1 with (first | ((with_reducible refine gd 10 rfl ?_); refine bx_ (N := 10) (cs := #[.int .i64 0, .int .i64 0, .string ByteArray.empty, .int .i64 0, .int .i64 0]) (t := 85) rfl rfl ?hr_1 ?_; (case hr_1 => first | (go_simp; done) | (go_simp; rfl)); intro gX1 hg w2 hb hk PX1 hPX1 HX1; have GEX1 := ge_ hg HB; have D_N_X1 := nl hPX1 HN.out.lt; have D_Y_X1 := nl hPX1 HY.out.lt; have D_O_X1 := nl hPX1 HO.out.lt; have D_G_X1 := na hPX1 HG; have RRX1 := ra HK hPX1; replace HN := nn hk HN; replace HY := rn hk HY; replace HO := rn hk HO; replace HG := sn hk HG; replace HK := kt HK hk; replace HB := bs HB hb; clear hb hk hg hPX1; replace jG := HG.out.c3; replace jX1 := HX1.out.c5; clear ha0 ha1 ha2 ha3 ha4) | ((with_reducible refine gate_store (t := 85) (p := 10) rfl ?_); refine LB.storedW HX1.out HB.out GEX1.out [.int .i64 f0, .int .i64 f1, .string f2, .int .i64 (a : Int), .int .i64 (b : Int)] rfl rfl (t := 85) (p := 10) rfl rfl ?hr_2 ?_; (case hr_2 => first | (go_simp; done) | (go_simp; simp only [World.setCells, Nat.reduceAdd, Nat.zero_add]; done)); intro w2 hx hk hb; replace HN := ns_ hk HN D_N_X1.out; replace HY := rs hk HY D_Y_X1.out; replace HO := rs hk HO D_O_X1.out; replace HG := ss hk HG D_G_X1.out; replace HK := kr HK hk RRX1; replace HB := am hb; replace HX1 := am (show LB w2 PX1 gX1 85 #[.int .i64 f0, .int .i64 f1, .string f2, .int .i64 (a : Int), .int .i64 (b : Int)] from hx); clear hk hx hb; replace jG := HG.out.c3; replace jX1 := HX1.out.c5))
 by_cases hc6 : f0 = 6
 ·
  have hc0 := hc6
  have k6 : (f0 == 6) = true := beq_iff_eq.mpr hc0
  obtain ⟨g, rfl⟩ : ∃ g : Nat, f1 = (g : Int) := ⟨f1.toNat, by have := H6.out hc0; omega⟩
  obtain ⟨g2, hg2⟩ : ∃ z, z = 2 * g := ⟨_, rfl⟩
  obtain ⟨g3, hg3⟩ : ∃ z, z = g2 + 1 := ⟨_, rfl⟩
  have hl6 : g3 < L2 := by have := H6.out hc0; omega
  have e1 : wrap64 (2 * (g : Int)) = (g2 : Int) := by have := HL2.out; unfold wrap64; omega
  have e2 : wrap64 ((g2 : Int) + 1) = (g3 : Int) := by have := HL2.out; unfold wrap64; omega
  have e1k : IntKind.i64.wrap (2 * (g : Int)) = (g2 : Int) := (i64_w _).trans e1
  have e2k : IntKind.i64.wrap ((g2 : Int) + 1) = (g3 : Int) := (i64_w _).trans e2
  have p2 := zn g2
  have q2 := eq_true (show (g2 : Int) < (L2 : Int) by omega)
  have p3 := zn g3
  have q3 := eq_true (show (g3 : Int) < (L2 : Int) by omega)
  have HIg2 := am (show g2 < L2 by omega)
  have HIg3 := am hl6
  have HV1 := am (show spf k i j out = spf a i j ((out.set g2 (i : Int)).set g3 (j : Int)) from HSP.out.trans (by subst hc0; show spf (Int.toNat (a : Int)) i j ((out.set (2 * (g : Int)).toNat (i : Int)).set (2 * (g : Int) + 1).toNat (j : Int)) = _; rw [Int.toNat_natCast, show (2 * (g : Int)).toNat = g2 by omega, show (2 * (g : Int) + 1).toNat = g3 by omega]))
  clear hg2 hg3 hl6
  replace jG := HG.out.c3
  replace jX1 := HX1.out.c5
  have HD1 := am (show den a i j = true from ((HDN.out i j).trans (by subst hc0; rfl)).symm.trans HDK.out)
  have IA := am (show ∀ (kn' out' : List Int) (ws' : World), l06E.At ⟨PG, PN, PK, gG, gK, some ad, DN, L, cK, ns, T, den, spf⟩ w ws' kn' → RB den ns.length T.size kn' M → LR (Kd.int .i64) 3 ws' w.heap.size PO (.slice (some ⟨gO, 0, none⟩) L2 cO) out' → _ from fun kn' out' ws' h1 h2 h3 => HS.out a i j kn' ws' PO gO L2 cO out' (H3.out (by omega)) (Nat.lt_trans (H3.out (by omega)) SZ.out.1) SZ.out.2.1 SZ.out.2.2.1 HD1.out HGR.out h1 h2 h3 D_G_O.out D_N_O.out D_Y_O.out)
  try dsimp only at IA
  try clear hc0
  try clear hc6
  try clear hc8
  try clear hc20
  try clear hc9
  try clear hc7
  go_wp2_with (first | ((with_reducible refine gate_store (t := 3) (p := 29) rfl ?_); obtain ⟨oy0, oy1⟩ := sp_at HO.out g2 HIg2.out; refine sp_put HO.out HB.out g2 HIg2.out (i : Int) rfl (t := 3) (p := 29) rfl rfl ?hr_3 ?_; (case hr_3 => first | (go_simp; done) | (go_simp; simp only [World.setCells, Nat.reduceAdd, Nat.zero_add]; done)); intro w2 hx hk hb; clear oy0 oy1; replace HG := ss hk HG D_G_O.out; replace HN := ns_ hk HN D_N_O.out; replace HY := rs hk HY D_Y_O.out; replace HX1 := ss hk HX1 (apart_symm D_O_X1.out); replace HK := am (HK.out.then_ hk (fun _ h_ => .inl (.inr h_))); replace HB := am hb; replace HO := am hx; clear hk hx hb; replace jG := HG.out.c3; replace jX1 := HX1.out.c5) | ((with_reducible refine gate_store (t := 3) (p := 36) rfl ?_); obtain ⟨oy0, oy1⟩ := sp_at HO.out g3 HIg3.out; refine sp_put HO.out HB.out g3 HIg3.out (j : Int) rfl (t := 3) (p := 36) rfl rfl ?hr_4 ?_; (case hr_4 => first | (go_simp; done) | (go_simp; simp only [World.setCells, Nat.reduceAdd, Nat.zero_add]; done)); intro w2 hx hk hb; clear oy0 oy1; replace HG := ss hk HG D_G_O.out; replace HN := ns_ hk HN D_N_O.out; replace HY := rs hk HY D_Y_O.out; replace HX1 := ss hk HX1 (apart_symm D_O_X1.out); replace HK := am (HK.out.then_ hk (fun _ h_ => .inl (.inr h_))); replace HB := am hb; replace HO := am hx; clear hk hx hb; replace jG := HG.out.c3; replace jX1 := HX1.out.c5) | ((with_reducible refine gd 43 rfl ?_); refine gl_ (some 43) rfl rfl Try.func41 #[.pointer (some ⟨gG, 0, none⟩), .int .i64 (a : Int), .int .i64 (i : Int), .int .i64 (j : Int), .slice (some ⟨gO, 0, none⟩) L2 cO] rfl rfl ?_; (with_reducible refine (IA.out _ _ _ ⟨HB.out, HG.out, HN.out, HY.out⟩ HRB.out HO.out).mono ?_); rintro e w2 ⟨kn2, rfl, hr_, ⟨hb_, hg_, hn_, hk_⟩, ho_, hkk_⟩; refine ⟨_, rfl, ?_⟩; dsimp only at hr_ hb_ hg_ hn_ hk_ ho_ hkk_; replace HX1 := ss hkk_ HX1 (apart_or (apart_symm D_Y_X1.out) (apart_symm D_O_X1.out)); replace HB := am hb_; replace HG := am hg_; replace HN := am hn_; replace HY := am hk_; replace HO := am ho_; replace HK := kl HK hkk_; replace HRB := am hr_; clear hb_ hg_ hn_ hk_ hkk_ hr_ ho_; replace jG := HG.out.c3; replace jX1 := HX1.out.c5))
  first | go_end0 | ((try simp only [Exit.inBlock, Exit.then]); refine bodyPost_ret (results_none rfl _ _ _) rfl ?_)
  exact ⟨_, rfl, HRB.out, ⟨HB.out, HG.out, HN.out, HY.out⟩, (by rw [HV1.out]; exact HO.out), HK.out⟩
 have k6 : (f0 == 6) = false := beq_eq_false_iff_ne.mpr hc6
 by_cases hc8 : f0 = 8
 ·
  have hc0 := hc8
  have k8 : (f0 == 8) = true := beq_iff_eq.mpr hc0
  have HD1 := am (show den k i j = (den a i j || den b i j) from (HDN.out i j).trans (by subst hc0; rfl))
  have HV1 := am (show spf k i j out = (if den a i j = true then spf a i j out else spf b i j out) from HSP.out.trans (by subst hc0; rfl))
  have IC := am (show ∀ (kn' : List Int) (ws' : World), l06E.At ⟨PG, PN, PK, gG, gK, some ad, DN, L, cK, ns, T, den, spf⟩ w ws' kn' → RB den ns.length T.size kn' M → _ from fun kn' ws' h1 h2 => HAN.out M M a i j kn' ws' (HM.out _ _ _ (Nat.lt_trans (H3.out (by omega)) SZ.out.1) SZ.out.2.1 SZ.out.2.2.1) (HM.out _ _ _ (Nat.lt_trans (H3.out (by omega)) SZ.out.1) SZ.out.2.1 SZ.out.2.2.1) (Nat.lt_trans (H3.out (by omega)) SZ.out.1) SZ.out.2.1 SZ.out.2.2.1 h1 h2)
  try dsimp only at IC
  rcases hA : den a i j with _ | _
  ·
   rw [hA] at IC HD1 HV1
   rw [if_neg (by decide)] at HV1
   have hB : den b i j = true := by have := HD1.out.symm.trans HDK.out; rwa [Bool.false_or] at this
   have IB := am (show ∀ (kn' out' : List Int) (ws' : World), l06E.At ⟨PG, PN, PK, gG, gK, some ad, DN, L, cK, ns, T, den, spf⟩ w ws' kn' → RB den ns.length T.size kn' M → LR (Kd.int .i64) 3 ws' w.heap.size PO (.slice (some ⟨gO, 0, none⟩) L2 cO) out' → _ from fun kn' out' ws' h1 h2 h3 => HS.out b i j kn' ws' PO gO L2 cO out' (H4.out (by omega)) (Nat.lt_trans (H4.out (by omega)) SZ.out.1) SZ.out.2.1 SZ.out.2.2.1 hB HGR.out h1 h2 h3 D_G_O.out D_N_O.out D_Y_O.out)
   try dsimp only at IB
   try clear hc0
   try clear hc6
   try clear hc8
   try clear hc20
   try clear hc9
   try clear hc7
   go_wp2_with (first | ((with_reducible refine gd 51 rfl ?_); refine gl_ (some 51) rfl rfl Try.func37 #[.pointer (some ⟨gG, 0, none⟩), .int .i64 (a : Int), .int .i64 (i : Int), .int .i64 (j : Int)] rfl rfl ?_; (with_reducible refine (IC.out _ _ ⟨HB.out, HG.out, HN.out, HY.out⟩ HRB.out).mono ?_); rintro e w2 ⟨kn2, rfl, hst_, ⟨hb_, hg_, hn_, hk_⟩, hkk_⟩; refine ⟨_, rfl, ?_⟩; dsimp only at hst_ hb_ hg_ hn_ hk_ hkk_; replace HX1 := ss hkk_ HX1 (apart_symm D_Y_X1.out); replace HO := rs hkk_ HO (apart_symm D_Y_O.out); replace HB := am hb_; replace HG := am hg_; replace HN := am hn_; replace HY := am hk_; replace HK := am (HK.out.then_ hkk_ (fun _ h_ => .inl (.inl h_))); replace HRB := am (St.rb hst_); clear hb_ hg_ hn_ hk_ hkk_ hst_; replace jG := HG.out.c3; replace jX1 := HX1.out.c5) | ((with_reducible refine gd 65 rfl ?_); refine gl_ (some 65) rfl rfl Try.func41 #[.pointer (some ⟨gG, 0, none⟩), .int .i64 (b : Int), .int .i64 (i : Int), .int .i64 (j : Int), .slice (some ⟨gO, 0, none⟩) L2 cO] rfl rfl ?_; (with_reducible refine (IB.out _ _ _ ⟨HB.out, HG.out, HN.out, HY.out⟩ HRB.out HO.out).mono ?_); rintro e w2 ⟨kn3, rfl, hr_, ⟨hb_, hg_, hn_, hk_⟩, ho_, hkk_⟩; refine ⟨_, rfl, ?_⟩; dsimp only at hr_ hb_ hg_ hn_ hk_ ho_ hkk_; replace HX1 := ss hkk_ HX1 (apart_or (apart_symm D_Y_X1.out) (apart_symm D_O_X1.out)); replace HB := am hb_; replace HG := am hg_; replace HN := am hn_; replace HY := am hk_; replace HO := am ho_; replace HK := kl HK hkk_; replace HRB := am hr_; clear hb_ hg_ hn_ hk_ hkk_ hr_ ho_; replace jG := HG.out.c3; replace jX1 := HX1.out.c5))
   first | go_end0 | ((try simp only [Exit.inBlock, Exit.then]); refine bodyPost_ret (results_none rfl _ _ _) rfl ?_)
   exact ⟨_, rfl, HRB.out, ⟨HB.out, HG.out, HN.out, HY.out⟩, (by rw [HV1.out]; exact HO.out), HK.out⟩
  rw [hA] at IC HV1
  rw [if_pos rfl] at HV1
  have IB := am (show ∀ (kn' out' : List Int) (ws' : World), l06E.At ⟨PG, PN, PK, gG, gK, some ad, DN, L, cK, ns, T, den, spf⟩ w ws' kn' → RB den ns.length T.size kn' M → LR (Kd.int .i64) 3 ws' w.heap.size PO (.slice (some ⟨gO, 0, none⟩) L2 cO) out' → _ from fun kn' out' ws' h1 h2 h3 => HS.out a i j kn' ws' PO gO L2 cO out' (H3.out (by omega)) (Nat.lt_trans (H3.out (by omega)) SZ.out.1) SZ.out.2.1 SZ.out.2.2.1 hA HGR.out h1 h2 h3 D_G_O.out D_N_O.out D_Y_O.out)
  try dsimp only at IB
  try clear hc0
  try clear hc6
  try clear hc8
  try clear hc20
  try clear hc9
  try clear hc7
  go_wp2_with (first | ((with_reducible refine gd 51 rfl ?_); refine gl_ (some 51) rfl rfl Try.func37 #[.pointer (some ⟨gG, 0, none⟩), .int .i64 (a : Int), .int .i64 (i : Int), .int .i64 (j : Int)] rfl rfl ?_; (with_reducible refine (IC.out _ _ ⟨HB.out, HG.out, HN.out, HY.out⟩ HRB.out).mono ?_); rintro e w2 ⟨kn2, rfl, hst_, ⟨hb_, hg_, hn_, hk_⟩, hkk_⟩; refine ⟨_, rfl, ?_⟩; dsimp only at hst_ hb_ hg_ hn_ hk_ hkk_; replace HX1 := ss hkk_ HX1 (apart_symm D_Y_X1.out); replace HO := rs hkk_ HO (apart_symm D_Y_O.out); replace HB := am hb_; replace HG := am hg_; replace HN := am hn_; replace HY := am hk_; replace HK := am (HK.out.then_ hkk_ (fun _ h_ => .inl (.inl h_))); replace HRB := am (St.rb hst_); clear hb_ hg_ hn_ hk_ hkk_ hst_; replace jG := HG.out.c3; replace jX1 := HX1.out.c5) | ((with_reducible refine gd 58 rfl ?_); refine gl_ (some 58) rfl rfl Try.func41 #[.pointer (some ⟨gG, 0, none⟩), .int .i64 (a : Int), .int .i64 (i : Int), .int .i64 (j : Int), .slice (some ⟨gO, 0, none⟩) L2 cO] rfl rfl ?_; (with_reducible refine (IB.out _ _ _ ⟨HB.out, HG.out, HN.out, HY.out⟩ HRB.out HO.out).mono ?_); rintro e w2 ⟨kn3, rfl, hr_, ⟨hb_, hg_, hn_, hk_⟩, ho_, hkk_⟩; refine ⟨_, rfl, ?_⟩; dsimp only at hr_ hb_ hg_ hn_ hk_ ho_ hkk_; replace HX1 := ss hkk_ HX1 (apart_or (apart_symm D_Y_X1.out) (apart_symm D_O_X1.out)); replace HB := am hb_; replace HG := am hg_; replace HN := am hn_; replace HY := am hk_; replace HO := am ho_; replace HK := kl HK hkk_; replace HRB := am hr_; clear hb_ hg_ hn_ hk_ hkk_ hr_ ho_; replace jG := HG.out.c3; replace jX1 := HX1.out.c5))
  first | go_end0 | ((try simp only [Exit.inBlock, Exit.then]); refine bodyPost_ret (results_none rfl _ _ _) rfl ?_)
  exact ⟨_, rfl, HRB.out, ⟨HB.out, HG.out, HN.out, HY.out⟩, (by rw [HV1.out]; exact HO.out), HK.out⟩
 have k8 : (f0 == 8) = false := beq_eq_false_iff_ne.mpr hc8
 by_cases hc20 : f0 = 20
 ·
  have hc0 := hc20
  have k20 : (f0 == 20) = true := beq_iff_eq.mpr hc0
  have HD1 := am (show den k i j = (i == j || den a i j) from (HDN.out i j).trans (by subst hc0; rfl))
  have HV1 := am (show spf k i j out = (if i < j then spf a i j out else out) from HSP.out.trans (by subst hc0; rfl))
  by_cases hlt : i < j
  ·
   rw [if_pos hlt] at HV1
   have hA : den a i j = true := by have h_ := HD1.out.symm.trans HDK.out; rwa [bo, Bool.false_or] at h_
   have cb1 : decide ((i : Int) < (j : Int)) = true := decide_eq_true (by omega)
   have cb2 : decide (i < j) = true := decide_eq_true hlt
   have IA := am (show ∀ (kn' out' : List Int) (ws' : World), l06E.At ⟨PG, PN, PK, gG, gK, some ad, DN, L, cK, ns, T, den, spf⟩ w ws' kn' → RB den ns.length T.size kn' M → LR (Kd.int .i64) 3 ws' w.heap.size PO (.slice (some ⟨gO, 0, none⟩) L2 cO) out' → _ from fun kn' out' ws' h1 h2 h3 => HS.out a i j kn' ws' PO gO L2 cO out' (H3.out (by omega)) (Nat.lt_trans (H3.out (by omega)) SZ.out.1) SZ.out.2.1 SZ.out.2.2.1 hA HGR.out h1 h2 h3 D_G_O.out D_N_O.out D_Y_O.out)
   try dsimp only at IA
   try clear hc0
   try clear hc6
   try clear hc8
   try clear hc20
   try clear hc9
   try clear hc7
   go_wp2_with (first | ((with_reducible refine gd 77 rfl ?_); refine gl_ (some 77) rfl rfl Try.func41 #[.pointer (some ⟨gG, 0, none⟩), .int .i64 (a : Int), .int .i64 (i : Int), .int .i64 (j : Int), .slice (some ⟨gO, 0, none⟩) L2 cO] rfl rfl ?_; (with_reducible refine (IA.out _ _ _ ⟨HB.out, HG.out, HN.out, HY.out⟩ HRB.out HO.out).mono ?_); rintro e w2 ⟨kn2, rfl, hr_, ⟨hb_, hg_, hn_, hk_⟩, ho_, hkk_⟩; refine ⟨_, rfl, ?_⟩; dsimp only at hr_ hb_ hg_ hn_ hk_ ho_ hkk_; replace HX1 := ss hkk_ HX1 (apart_or (apart_symm D_Y_X1.out) (apart_symm D_O_X1.out)); replace HB := am hb_; replace HG := am hg_; replace HN := am hn_; replace HY := am hk_; replace HO := am ho_; replace HK := kl HK hkk_; replace HRB := am hr_; clear hb_ hg_ hn_ hk_ hkk_ hr_ ho_; replace jG := HG.out.c3; replace jX1 := HX1.out.c5))
   first | go_end0 | ((try simp only [Exit.inBlock, Exit.then]); refine bodyPost_ret (results_none rfl _ _ _) rfl ?_)
   exact ⟨_, rfl, HRB.out, ⟨HB.out, HG.out, HN.out, HY.out⟩, (by rw [HV1.out]; exact HO.out), HK.out⟩
  rw [if_neg hlt] at HV1
  have cb1 : decide ((i : Int) < (j : Int)) = false := decide_eq_false (by omega)
  have cb2 : decide (i < j) = false := decide_eq_false hlt
  try clear hc0
  try clear hc6
  try clear hc8
  try clear hc20
  try clear hc9
  try clear hc7
  go_wp2
  first | go_end0 | ((try simp only [Exit.inBlock, Exit.then]); refine bodyPost_ret (results_none rfl _ _ _) rfl ?_)
  exact ⟨_, rfl, HRB.out, ⟨HB.out, HG.out, HN.out, HY.out⟩, (by rw [HV1.out]; exact HO.out), HK.out⟩
 have k20 : (f0 == 20) = false := beq_eq_false_iff_ne.mpr hc20
 by_cases hc9 : f0 = 9
 ·
  have hc0 := hc9
  have k9 : (f0 == 9) = true := beq_iff_eq.mpr hc0
  have HST := am (show ∀ i j, den k i j = starM (den a) i j from fun i j => (HDN.out i j).trans (by subst hc0; rfl))
  have HSD := am (show ∀ i j, den k i j = (i == j || decide (0 ≤ spl (den a) (den k) (i + 1) i j)) from fun i j => (HDN.out i j).trans (ndMat_star hc0 HDN.out i j))
  have HAK := am (show a < k from H3.out (by omega))
  have HV1 := am (show spf k i j out = spStarF (den a) (spf a) (j - i) i j out from HSP.out.trans (by subst hc0; rfl))
  try clear hc0
  try clear hc6
  try clear hc8
  try clear hc20
  try clear hc9
  try clear hc7
  go_wp2
  go_loopg [2] (j - i + 1) (fun kq v2 w' => ∃ (t : Nat) (kn1 out1 : List Int), v2 = .int .i64 (t : Int) ∧ Aside0 (j + 1 ≤ t + kq ∧ i ≤ t ∧ t ≤ j) ∧ Aside0 (den k t j = true) ∧ Aside0 (spStarF (den a) (spf a) (j - t) t j out1 = spStarF (den a) (spf a) (j - i) i j out) ∧ Aside0 (Below w.heap.size w w') ∧ Aside0 (LB w' PG gG 82 #[.slice (some ad) ns.length DN, .string T, .slice (some ⟨gK, 0, none⟩) L cK]) ∧ Aside0 (LN k85 85 w' w.heap.size PN (.slice (some ad) ns.length DN) ns) ∧ Aside0 (LR (Kd.int .u8) 5 w' w.heap.size PK (.slice (some ⟨gK, 0, none⟩) L cK) kn1) ∧ Aside0 (RB den ns.length T.size kn1 M) ∧ Aside0 (LR (Kd.int .i64) 3 w' w.heap.size PO (.slice (some ⟨gO, 0, none⟩) L2 cO) out1) ∧ Aside0 (LB w' PX1 gX1 85 #[.int .i64 f0, .int .i64 f1, .string f2, .int .i64 (a : Int), .int .i64 (b : Int)]) ∧ Aside0 (Kept ws w' (fun k_ => PK k_ ∨ PO k_)))
  case atStart => exact ⟨i, kn, out, rfl, ⟨by have := SZ.out; omega⟩, HDK, ⟨rfl⟩, HB, HG, HN, HY, HRB, HO, HX1, HK⟩
  case round =>
   clear HB HG HN HY HRB HO HX1 HK
   obtain ⟨t, kn1, out1, rfl, HT, HDT, HEQ, HB, HG, HN, HY, HRB, HO, HX1, HK⟩ := hrel
   by_cases hlt : t < j
   ·
    obtain ⟨k1, rfl⟩ : ∃ k_, gk = k_ + 1 := ⟨gk - 1, by have := HT.out; omega⟩
    have h0_ : 0 ≤ spl (den a) (den k) (t + 1) t j := by have h_ := (HSD.out t j).symm.trans HDT.out; rw [bo, Bool.false_or] at h_; exact of_decide_eq_true h_
    obtain ⟨q, hq1, hq2, hA, hK, hq3, hq4⟩ := span_star (sa := spf a) HST.out hlt h0_
    have HQ := am (And.intro hq1 hq2)
    have HNX := am (hq4 out1)
    have HKQ := am hK
    have hwt : wrap64 ((t : Int) + 1) = ((t + 1 : Nat) : Int) := by have := SZ.out; have := HT.out; unfold wrap64; omega
    have hwtk : IntKind.i64.wrap ((t : Int) + 1) = ((t + 1 : Nat) : Int) := (i64_w _).trans hwt
    have cb1 : decide ((t : Int) < (j : Int)) = true := decide_eq_true (by omega)
    have cb2 : decide (t < j) = true := decide_eq_true hlt
    have IS := am (show ∀ (kn' : List Int) (ws' : World), l06E.At ⟨PG, PN, PK, gG, gK, some ad, DN, L, cK, ns, T, den, spf⟩ w ws' kn' → RB den ns.length T.size kn' M → _ from fun kn' ws' h1 h2 => HSL.out a k t j (t + 1) (Nat.lt_trans HAK.out SZ.out.1) SZ.out.1 (by omega) (by have := SZ.out; omega) SZ.out.2.2.1 (by have := SZ.out; omega) SZ.out.2.2.2 (fun q h1 h2 => ⟨HM.out _ _ _ (Nat.lt_trans HAK.out SZ.out.1) (by omega) (by have := SZ.out; omega), HM.out _ _ _ SZ.out.1 h2 SZ.out.2.2.1⟩) kn' ws' h1 h2)
    try dsimp only at IS
    rw [hq3] at IS
    have IA := am (show ∀ (kn' out' : List Int) (ws' : World), l06E.At ⟨PG, PN, PK, gG, gK, some ad, DN, L, cK, ns, T, den, spf⟩ w ws' kn' → RB den ns.length T.size kn' M → LR (Kd.int .i64) 3 ws' w.heap.size PO (.slice (some ⟨gO, 0, none⟩) L2 cO) out' → _ from fun kn' out' ws' h1 h2 h3 => HS.out a t q kn' ws' PO gO L2 cO out' HAK.out (Nat.lt_trans HAK.out SZ.out.1) (by omega) (Nat.le_trans hq2 SZ.out.2.2.1) hA HGR.out h1 h2 h3 D_G_O.out D_N_O.out D_Y_O.out)
    try dsimp only at IA
    clear hq1 hq2 hq3 hq4 hA hK h0_ hlt
    replace jG := HG.out.c3
    replace jX1 := HX1.out.c5
    go_wp2_with (first | ((with_reducible refine gd 91 rfl ?_); refine gl_ (some 91) rfl rfl Try.func58 #[.pointer (some ⟨gG, 0, none⟩), .int .i64 (a : Int), .int .i64 (k : Int), .int .i64 (t : Int), .int .i64 (j : Int), .int .i64 ((t + 1 : Nat) : Int)] rfl rfl ?_; (with_reducible refine (IS.out _ _ ⟨HB.out, HG.out, HN.out, HY.out⟩ HRB.out).mono ?_); rintro e w2 ⟨kn2, rfl, hst_, ⟨hb_, hg_, hn_, hk_⟩, hkk_⟩; refine ⟨_, rfl, ?_⟩; dsimp only at hst_ hb_ hg_ hn_ hk_ hkk_; replace HX1 := ss hkk_ HX1 (apart_symm D_Y_X1.out); replace HO := rs hkk_ HO (apart_symm D_Y_O.out); replace HB := am hb_; replace HG := am hg_; replace HN := am hn_; replace HY := am hk_; replace HK := am (HK.out.then_ hkk_ (fun _ h_ => .inl (.inl h_))); replace HRB := am (St.rb hst_); clear hb_ hg_ hn_ hk_ hkk_ hst_; replace jG := HG.out.c3; replace jX1 := HX1.out.c5) | ((with_reducible refine gd 98 rfl ?_); refine gl_ (some 98) rfl rfl Try.func41 #[.pointer (some ⟨gG, 0, none⟩), .int .i64 (a : Int), .int .i64 (t : Int), .int .i64 (q : Int), .slice (some ⟨gO, 0, none⟩) L2 cO] rfl rfl ?_; (with_reducible refine (IA.out _ _ _ ⟨HB.out, HG.out, HN.out, HY.out⟩ HRB.out HO.out).mono ?_); rintro e w2 ⟨kn3, rfl, hr_, ⟨hb_, hg_, hn_, hk_⟩, ho_, hkk_⟩; refine ⟨_, rfl, ?_⟩; dsimp only at hr_ hb_ hg_ hn_ hk_ ho_ hkk_; replace HX1 := ss hkk_ HX1 (apart_or (apart_symm D_Y_X1.out) (apart_symm D_O_X1.out)); replace HB := am hb_; replace HG := am hg_; replace HN := am hn_; replace HY := am hk_; replace HO := am ho_; replace HK := kl HK hkk_; replace HRB := am hr_; clear hb_ hg_ hn_ hk_ hkk_ hr_ ho_; replace jG := HG.out.c3; replace jX1 := HX1.out.c5))
    go_roundg k1
    case measure => have := HT.out; omega
    case rel => exact ⟨q, _, _, rfl, ⟨by have := HT.out; have := HQ.out; omega⟩, HKQ, ⟨HNX.out.symm.trans HEQ.out⟩, HB, HG, HN, HY, HRB, HO, HX1, HK⟩
   obtain rfl : t = j := by have := HT.out; omega
   have cb1 : decide ((t : Int) < (t : Int)) = false := decide_eq_false (by omega)
   have cb2 : decide (t < t) = false := decide_eq_false (by omega)
   have HE1 := am (show out1 = spStarF (den a) (spf a) (t - i) i t out from by have h_ := HEQ.out; rw [Nat.sub_self] at h_; exact h_)
   replace jG := HG.out.c3
   replace jX1 := HX1.out.c5
   go_wp2
   first | go_end0 | ((try simp only [Exit.inBlock, Exit.then]); refine bodyPost_ret (results_none rfl _ _ _) rfl ?_)
   exact ⟨_, rfl, HRB.out, ⟨HB.out, HG.out, HN.out, HY.out⟩, (by rw [HV1.out, ← HE1.out]; exact HO.out), HK.out⟩
 have k9 : (f0 == 9) = false := beq_eq_false_iff_ne.mpr hc9
 by_cases hc7 : f0 = 7
 ·
  have hc0 := hc7
  have k7 : (f0 == 7) = true := beq_iff_eq.mpr hc0
  have HD1 := am (show den k i j = decide (0 ≤ spl (den a) (den b) i i j) from (HDN.out i j).trans (ndMat_cat den hc0 i j))
  obtain ⟨q, hq1, hq2, hA, hB, hq3, hq4⟩ := span_cat (of_decide_eq_true (HD1.out.symm.trans HDK.out))
  have HV1 := am (show spf k i j out = spf b q j (spf a i q out) from HSP.out.trans (by subst hc0; show (match lastK i (fun k => den (Int.toNat (a : Int)) i k && den (Int.toNat (b : Int)) k j) j with | some k => _ | none => _) = _; rw [Int.toNat_natCast, Int.toNat_natCast, hq4]))
  have IS := am (show ∀ (kn' : List Int) (ws' : World), l06E.At ⟨PG, PN, PK, gG, gK, some ad, DN, L, cK, ns, T, den, spf⟩ w ws' kn' → RB den ns.length T.size kn' M → _ from fun kn' ws' h1 h2 => HSL.out a b i j i (Nat.lt_trans (H3.out (by omega)) SZ.out.1) (Nat.lt_trans (H4.out (by omega)) SZ.out.1) (by omega) (by have := SZ.out; omega) SZ.out.2.2.1 (by have := SZ.out; omega) SZ.out.2.2.2 (fun q h1 h2 => ⟨HM.out _ _ _ (Nat.lt_trans (H3.out (by omega)) SZ.out.1) (by omega) (by have := SZ.out; omega), HM.out _ _ _ (Nat.lt_trans (H4.out (by omega)) SZ.out.1) h2 SZ.out.2.2.1⟩) kn' ws' h1 h2)
  try dsimp only at IS
  rw [hq3] at IS
  have IA := am (show ∀ (kn' out' : List Int) (ws' : World), l06E.At ⟨PG, PN, PK, gG, gK, some ad, DN, L, cK, ns, T, den, spf⟩ w ws' kn' → RB den ns.length T.size kn' M → LR (Kd.int .i64) 3 ws' w.heap.size PO (.slice (some ⟨gO, 0, none⟩) L2 cO) out' → _ from fun kn' out' ws' h1 h2 h3 => HS.out a i q kn' ws' PO gO L2 cO out' (H3.out (by omega)) (Nat.lt_trans (H3.out (by omega)) SZ.out.1) hq1 (Nat.le_trans hq2 SZ.out.2.2.1) hA HGR.out h1 h2 h3 D_G_O.out D_N_O.out D_Y_O.out)
  try dsimp only at IA
  have IB := am (show ∀ (kn' out' : List Int) (ws' : World), l06E.At ⟨PG, PN, PK, gG, gK, some ad, DN, L, cK, ns, T, den, spf⟩ w ws' kn' → RB den ns.length T.size kn' M → LR (Kd.int .i64) 3 ws' w.heap.size PO (.slice (some ⟨gO, 0, none⟩) L2 cO) out' → _ from fun kn' out' ws' h1 h2 h3 => HS.out b q j kn' ws' PO gO L2 cO out' (H4.out (by omega)) (Nat.lt_trans (H4.out (by omega)) SZ.out.1) hq2 SZ.out.2.2.1 hB HGR.out h1 h2 h3 D_G_O.out D_N_O.out D_Y_O.out)
  try dsimp only at IB
  try clear hc0
  try clear hc6
  try clear hc8
  try clear hc20
  try clear hc9
  try clear hc7
  clear hq1 hq2 hq3 hq4 HD1
  go_wp2_with (first | ((with_reducible refine gd 110 rfl ?_); refine gl_ (some 110) rfl rfl Try.func58 #[.pointer (some ⟨gG, 0, none⟩), .int .i64 (a : Int), .int .i64 (b : Int), .int .i64 (i : Int), .int .i64 (j : Int), .int .i64 (i : Int)] rfl rfl ?_; (with_reducible refine (IS.out _ _ ⟨HB.out, HG.out, HN.out, HY.out⟩ HRB.out).mono ?_); rintro e w2 ⟨kn2, rfl, hst_, ⟨hb_, hg_, hn_, hk_⟩, hkk_⟩; refine ⟨_, rfl, ?_⟩; dsimp only at hst_ hb_ hg_ hn_ hk_ hkk_; replace HX1 := ss hkk_ HX1 (apart_symm D_Y_X1.out); replace HO := rs hkk_ HO (apart_symm D_Y_O.out); replace HB := am hb_; replace HG := am hg_; replace HN := am hn_; replace HY := am hk_; replace HK := am (HK.out.then_ hkk_ (fun _ h_ => .inl (.inl h_))); replace HRB := am (St.rb hst_); clear hb_ hg_ hn_ hk_ hkk_ hst_; replace jG := HG.out.c3; replace jX1 := HX1.out.c5) | ((with_reducible refine gd 117 rfl ?_); refine gl_ (some 117) rfl rfl Try.func41 #[.pointer (some ⟨gG, 0, none⟩), .int .i64 (a : Int), .int .i64 (i : Int), .int .i64 (q : Int), .slice (some ⟨gO, 0, none⟩) L2 cO] rfl rfl ?_; (with_reducible refine (IA.out _ _ _ ⟨HB.out, HG.out, HN.out, HY.out⟩ HRB.out HO.out).mono ?_); rintro e w2 ⟨kn3, rfl, hr_, ⟨hb_, hg_, hn_, hk_⟩, ho_, hkk_⟩; refine ⟨_, rfl, ?_⟩; dsimp only at hr_ hb_ hg_ hn_ hk_ ho_ hkk_; replace HX1 := ss hkk_ HX1 (apart_or (apart_symm D_Y_X1.out) (apart_symm D_O_X1.out)); replace HB := am hb_; replace HG := am hg_; replace HN := am hn_; replace HY := am hk_; replace HO := am ho_; replace HK := kl HK hkk_; replace HRB := am hr_; clear hb_ hg_ hn_ hk_ hkk_ hr_ ho_; replace jG := HG.out.c3; replace jX1 := HX1.out.c5) | ((with_reducible refine gd 124 rfl ?_); refine gl_ (some 124) rfl rfl Try.func41 #[.pointer (some ⟨gG, 0, none⟩), .int .i64 (b : Int), .int .i64 (q : Int), .int .i64 (j : Int), .slice (some ⟨gO, 0, none⟩) L2 cO] rfl rfl ?_; (with_reducible refine (IB.out _ _ _ ⟨HB.out, HG.out, HN.out, HY.out⟩ HRB.out HO.out).mono ?_); rintro e w2 ⟨kn4, rfl, hr_, ⟨hb_, hg_, hn_, hk_⟩, ho_, hkk_⟩; refine ⟨_, rfl, ?_⟩; dsimp only at hr_ hb_ hg_ hn_ hk_ ho_ hkk_; replace HX1 := ss hkk_ HX1 (apart_or (apart_symm D_Y_X1.out) (apart_symm D_O_X1.out)); replace HB := am hb_; replace HG := am hg_; replace HN := am hn_; replace HY := am hk_; replace HO := am ho_; replace HK := kl HK hkk_; replace HRB := am hr_; clear hb_ hg_ hn_ hk_ hkk_ hr_ ho_; replace jG := HG.out.c3; replace jX1 := HX1.out.c5))
  first | go_end0 | ((try simp only [Exit.inBlock, Exit.then]); refine bodyPost_ret (results_none rfl _ _ _) rfl ?_)
  exact ⟨_, rfl, HRB.out, ⟨HB.out, HG.out, HN.out, HY.out⟩, (by rw [HV1.out]; exact HO.out), HK.out⟩
 have k7 : (f0 == 7) = false := beq_eq_false_iff_ne.mpr hc7
 have HV1 := am (show spf k i j out = out from HSP.out.trans (by unfold ndSp; rw [if_neg (by omega), if_neg (by omega), if_neg (by omega), if_neg (by omega), if_neg (by omega)]))
 try clear hc0
 try clear hc6
 try clear hc8
 try clear hc20
 try clear hc9
 try clear hc7
 go_wp2
 first | go_end0 | ((try simp only [Exit.inBlock, Exit.then]); refine bodyPost_ret (results_none rfl _ _ _) rfl ?_)
 exact ⟨_, rfl, HRB.out, ⟨HB.out, HG.out, HN.out, HY.out⟩, (by rw [HV1.out]; exact HO.out), HK.out⟩
theorem spec_spans (E : l06E) (w : World) (hok : E.Ok) (M : Nat) (hM : ∀ q i j, q < E.ns.length → i ≤ j → j ≤ E.T.size → mu E.T.size q i j < M) : ∀ m, E.Spans w m M := by
 intro m
 induction m with
 | zero => intro k i j kn ws PO gO L2 cO out h; exact absurd h (Nat.not_lt_zero _)
 | succ m ih =>
  intro k i j kn ws PO gO L2 cO out h hk hij hj hd hg hAt hR hO h1 h2 h3
  exact spec_span1 E w hok M hM k (fun k' i' j' kn' ws' PO' gO' L2' cO' out' h' => ih k' i' j' kn' ws' PO' gO' L2' cO' out' (by omega)) i j kn ws PO gO L2 cO out hk hij hj hd hg hAt hR hO h1 h2 h3
end
end Go.Proofs.Ytlpabbcgichaoaa.PFnExactFind
