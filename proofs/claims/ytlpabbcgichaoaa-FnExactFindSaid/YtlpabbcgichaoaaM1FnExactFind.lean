/- The reference's machine. -/
import Derived.Test.YtlpabbcgichaoaaCanAFnExactFind
import Derived.Test.YtlpabbcgichaoaaMkBFnExactFind
import Derived.Test.YtlpabbcgichaoaaMatFnExactFind
import Derived.Test.YtlpabbcgichaoaaWWords
namespace Go.Proofs.Ytlpabbcgichaoaa.PFnExactFind
open Go.RowKit Go.Proofs.Ytlpabbcgichaoaa.Lawful Go.Proofs.YtlpabbcgichaoaaW.PrintWords Go.Proofs.YtlpabbcgichaoaaW.PrintLast Go.Proofs.YtlpabbcgichaoaaW.PrintMore
attribute [local go_sem] max2_int min2_int max_two min_two max_three min_three max_four min_four
set_option maxHeartbeats 16000000
set_option maxRecDepth 100000
set_option linter.unusedVariables false
set_option linter.unusedSimpArgs false
section
open Go.Proofs.Ytlpabbcgichaoaa.Lawful
@[reducible] def l06Made (E : l06E) (w w' ws : World) (x : S31) (T : ByteArray) : Prop :=
 E.Ok ∧ E.T = T ∧ E.ns = (mk x []).1 ∧ Stands E.ns E.den E.spf (mk x []).2 (mat (fun i => bt T (i : Int)) T.size x) (sp (fun i => bt T (i : Int)) T.size x) ∧ (∃ kn, E.At w w' kn ∧ ∀ M, RB E.den E.ns.length T.size kn M) ∧ (∀ k, E.PG k → ws.heap.size ≤ k) ∧ (∀ k, E.PN k → ws.heap.size ≤ k) ∧ (∀ k, E.PK k → ws.heap.size ≤ k) ∧ Kept ws w' (fun _ => False)
theorem spec_Machine1 (w ws : World) (x : S31) (T : ByteArray) (A4 : Option Addr) (c4 : Nat) (hB : Below w.heap.size w ws) (hr : Kd.C k31 w A4 x.f4.length x.f4) (hc : x.f4.length ≤ c4) (hw : rxW x) (hn : cnt x ≤ 2000) (hs : rxT x) (hT : T.size ≤ 120) :
  Calls Try.prog 36 #[.agg #[.int .i64 x.f0, .int .i64 x.f1, .int .i64 x.f2, .string x.f3, .slice A4 x.f4.length c4], .string T] ws fun e w' => ∃ E : l06E, e = .returned (.tuple #[.pointer (some ⟨E.gG, 0, none⟩), .int .i64 ((mk x []).2 : Int)]) ∧ l06Made E w w' ws x T := by
 have hu := Try.underlying82
 have hu2 := Try.underlying85
 have hu3 := Try.underlying31
 have HR4 := am hr
 have HC4 := am hc
 obtain ⟨den, spf, hgood, hst⟩ := mk_root (fun i => bt T (i : Int)) T.size x hw
 have hset := (mk_T _).1 x (Nat.le_refl _) hs [] (fun y hy => by simp at hy)
 have hlen := (mk_len _).1 x (Nat.le_refl _) hw []
 have LM := (fun (ws' : World) (PG : Nat → Prop) (gG : Nat) h => spec_make w PG gG T _ x (Nat.le_refl _) hw ws' (fun _ => False) none 0 [] A4 c4 hr hc (by simp; omega) h)
 obtain ⟨⟨m1, r1⟩, hq⟩ : ∃ q : List S85 × Nat, mk x [] = q := ⟨_, rfl⟩
 rw [hq] at hgood hst hset hlen LM ⊢
 dsimp only at hgood hst hset hlen LM ⊢
 replace LM := am LM
 have HGD := am hgood
 have HST := am hst
 have HSE := am hset
 have HQ := am hq
 have hm0 : r1 < m1.length := hst.1
 have hm1 : m1.length < 90000 := by simp at hlen; omega
 obtain ⟨W1, hW⟩ : ∃ W_, W_ = T.size + 1 := ⟨_, rfl⟩
 obtain ⟨p1, hp1⟩ : ∃ p_, p_ = m1.length * W1 := ⟨_, rfl⟩
 obtain ⟨q1, hq1⟩ : ∃ p_, p_ = p1 * W1 := ⟨_, rfl⟩
 have hb1 : p1 ≤ 90000 * 121 := by rw [hp1]; exact Nat.mul_le_mul (by omega) (by omega)
 have hb2 : q1 ≤ 90000 * 121 * 121 := by rw [hq1]; exact Nat.mul_le_mul hb1 (by omega)
 have hpos : 0 < q1 := by rw [hq1, hp1]; exact Nat.mul_pos (Nat.mul_pos (by omega) (by omega)) (by omega)
 have HQ1 := am (show q1 = m1.length * (T.size + 1) * (T.size + 1) ∧ 0 < q1 ∧ q1 ≤ 90000 * 121 * 121 from ⟨by rw [hq1, hp1, hW], hpos, hb2⟩)
 have HT := am hT
 have e1 : wrap64 ((T.size : Int) + 1) = (W1 : Int) := wrap_nat (by rw [hW]; rfl) (by omega)
 have e2 : wrap64 ((m1.length : Int) * (W1 : Int)) = (p1 : Int) := wrap_nat (by rw [hp1]; exact (Int.natCast_mul _ _).symm) (by omega)
 have e3 : wrap64 ((p1 : Int) * (W1 : Int)) = (q1 : Int) := wrap_nat (by rw [hq1]; exact (Int.natCast_mul _ _).symm) (by omega)
 have e1k : IntKind.i64.wrap ((T.size : Int) + 1) = (W1 : Int) := (i64_w _).trans e1
 have e2k : IntKind.i64.wrap ((m1.length : Int) * (W1 : Int)) = (p1 : Int) := (i64_w _).trans e2
 have e3k : IntKind.i64.wrap ((p1 : Int) * (W1 : Int)) = (q1 : Int) := (i64_w _).trans e3
 have HB := am hB
 have HK := am (Kept.refl ws (fun _ => False))
 obtain ⟨f0, f1, f2, f3, l⟩ := x
 dsimp only at LM
 clear hr hc hw hn hs hT hgood hst hset hlen hq hm0 hm1 hW hp1 hq1 hb1 hb2 hpos hB
 obtain ⟨zs, hzs⟩ : ∃ z_ : List Int, z_ = List.replicate q1 0 := ⟨_, rfl⟩
 have Nzs := am hzs
 clear hzs
 go_enter Try.func36, Try.ntmps36
 go_wp2_with (first | ((with_reducible refine gd 2 rfl ?_); refine bx_ (N := 2) (cs := #[.int .i64 f0, .int .i64 f1, .int .i64 f2, .string f3, .slice A4 l.length c4]) (t := 31) rfl rfl ?hr_1 ?_; (case hr_1 => first | (go_simp; done) | (go_simp; rfl)); intro gX1 hg w2 hb hk PX1 hPX1 HX1; have GEX1 := ge_ hg HB; have RRX1 := am (show ∀ k_, PX1 k_ → (fun _ => False) k_ ∨ ws.heap.size ≤ k_ from fun k_ h_ => .inr (Nat.le_trans HK.out.1 (hPX1 k_ h_).1)); replace HK := kt HK hk; replace HB := bs HB hb; clear hb hk hg hPX1; replace jX1 := HX1.out.c5) | ((with_reducible refine gd 11 rfl ?_); refine bx_ (N := 11) (cs := #[.slice none 0 0, .string T, .slice none 0 0]) (t := 82) rfl rfl ?hr_2 ?_; (case hr_2 => first | (go_simp; done) | (go_simp; rfl)); intro gX2 hg w2 hb hk PX2 hPX2 HX2; have GEX2 := ge_ hg HB; have D_X1_X2 := na hPX2 HX1; have RRX2 := am (show ∀ k_, PX2 k_ → (fun _ => False) k_ ∨ ws.heap.size ≤ k_ from fun k_ h_ => .inr (Nat.le_trans HK.out.1 (hPX2 k_ h_).1)); replace HX1 := sn hk HX1; replace HK := kt HK hk; replace HB := bs HB hb; clear hb hk hg hPX2; replace jX1 := HX1.out.c5; replace jX2 := HX2.out.c3) | ((with_reducible refine gc 48 rfl ?_); refine gl_ (some 14) rfl rfl Try.func48 #[.pointer (some ⟨gX2, 0, none⟩), .agg #[.int .i64 f0, .int .i64 f1, .int .i64 f2, .string f3, .slice A4 l.length c4]] rfl rfl ?_; have hat_ := (show l06B w _ PX2 (fun _ => False) gX2 none 0 T [] from ⟨HB.out, HX2.out, LR.nil _ _ _ _, fun _ _ h_ => h_, GEX2.out⟩); (with_reducible refine (LM.out _ _ _ hat_).mono ?_); rintro e w2 ⟨BN, DN, PN, rfl, ⟨hb_, hg_, hn_, hd_, hge_⟩, hrr_, hkk_⟩; refine ⟨_, rfl, ?_⟩; clear hat_; have D_X1_N := am (apart_app hrr_ HX1.out.lt (apart_or D_X1_X2.out (fun _ _ h_ => h_))); replace HX1 := am (HX1.out.step hkk_ (apart_or D_X1_X2.out (fun _ _ h_ => h_))); have RRN := am (rr_app hrr_ HK.out.1 (rr_or RRX2.out (fun _ h_ => h_.elim))); replace HK := am (HK.out.then_ hkk_ (rr_or RRX2.out (fun _ h_ => h_.elim))); replace HB := am hb_; replace HX2 := am hg_; have HN := am hn_; have D_X2_N := am hd_; clear hb_ hg_ hn_ hd_ hge_ hrr_ hkk_; replace jX1 := HX1.out.c5; replace jX2 := HX2.out.c3) | ((with_reducible refine gd 28 rfl ?_); refine Kd.R_make (Kd.int .u8) _ 5 rfl (N := 28) rfl 80 _ _ rfl (q1 : Int) rfl rfl Try.underlying80 (.int .u8 0) 1 info5 rfl (by decide) (by omega) 0 (ok := fun _ => True) (okp := fun _ => True) rfl (fun _ hk => hk) trivial (Int.natCast_nonneg _) (by rw [Int.toNat_natCast]; have := HQ1.out; omega) (Below.refl _ _) (Nat.le_refl _) ?_; intro vY w2 hrY hb hg_ hnew_; clear hg_ hnew_; rw [Int.toNat_natCast, ← Nzs.out] at hrY; have hk := kept_below hb; obtain ⟨PY, hPY, HLY⟩ := LR.fresh rfl HB.out hrY; have HY := am HLY; clear HLY hrY; have D_X1_Y := na hPY HX1; have D_X2_Y := na hPY HX2; have D_N_Y := nl hPY HN.out.lt; have RRY := am (show ∀ k_, PY k_ → (fun _ => False) k_ ∨ ws.heap.size ≤ k_ from fun k_ h_ => .inr (Nat.le_trans HK.out.1 (hPY k_ h_).1)); replace HX1 := sn hk HX1; replace HX2 := sn hk HX2; replace HN := rn hk HN; replace HK := kt HK hk; clear hPY; obtain ⟨BY, DY, e_Y⟩ := HY.out.val; subst e_Y; replace HB := bs HB hb; clear hb hk; replace jX1 := HX1.out.c5; replace jX2 := HX2.out.c3) | ((with_reducible refine gate_store (t := 80) (p := 30) rfl ?_); refine LB.stored HX2.out HB.out GEX2.out 2 [.slice BY zs.length DY] rfl (t := 80) (p := 30) rfl rfl ?hr_3 ?_; (case hr_3 => first | (go_simp; done) | (go_simp; simp only [World.setCells, Nat.reduceAdd, Nat.zero_add]; done)); intro w2 hx hk hb; replace HX1 := ss hk HX1 D_X1_X2.out; replace HN := rs hk HN (apart_symm D_X2_N.out); replace HY := rs hk HY (apart_symm D_X2_Y.out); replace HK := kr HK hk RRX2; replace HB := am hb; replace HX2 := am (show LB w2 PX2 gX2 82 #[.slice BN m1.length DN, .string T, .slice BY zs.length DY] from hx); clear hk hx hb; replace jX1 := HX1.out.c5; replace jX2 := HX2.out.c3))
 go_ret2
 have hzl : zs.length = q1 := by rw [Nzs.out, List.length_replicate]
 obtain ⟨gK, cK, he, hge, hltK, _⟩ := Kd.R_form HY.out.1 (by rw [hzl]; exact HQ1.out.2.1)
 injection he with he1 _ he3
 subst he1 he3
 refine ⟨⟨PX2, (fun k => PN k ∧ w.heap.size ≤ k), PY, gX2, gK, BN, DN, zs.length, DY, m1, T, den, spf⟩, rfl, ?_, rfl, (by rw [HQ.out]), (by rw [HQ.out]; exact HST.out), ⟨zs, ⟨HB.out, HX2.out, HN.out.toLN, HY.out⟩, fun M => ?_⟩, fun k hk => (RRX2.out k hk).resolve_left (fun h => h), fun k hk => (RRN.out k hk.1).resolve_left (fun h => h), fun k hk => (RRY.out k hk).resolve_left (fun h => h), HK.out⟩
 ·
  refine ⟨HGD.out, ?_, HSE.out, D_X2_Y.out, fun k hk => D_N_Y.out k hk.1, ?_⟩
  ·
   show m1.length * (T.size + 1) * (T.size + 1) < 4611686018427387904
   rw [← HQ1.out.1]; have := HQ1.out; omega
  show T.size < 4611686018427387904
  have := HT.out; omega
 rw [Nzs.out]; exact RB_zero den m1.length T.size M q1 HQ1.out.1
end
end Go.Proofs.Ytlpabbcgichaoaa.PFnExactFind
