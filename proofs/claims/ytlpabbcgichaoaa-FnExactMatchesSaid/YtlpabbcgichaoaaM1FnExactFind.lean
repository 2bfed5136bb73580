/- The reference's machine tells of each node whether it matches. -/
/- The reference's machine of a tree and a text. -/
import Derived.Test.YtlpabbcgichaoaaCanAFnExactFind
import Derived.Deep.QuietTactic
import Derived.BigQuiet
import Derived.StillTailTactics
import Derived.Outline
import Derived.Deep.RegionHeld3
import Derived.Deep.Cut
import Derived.Test.YtlpabbcgichaoaaHw
import Derived.Test.YtlpabbcgichaoaaPk
import Derived.Test.YtlpabbcgichaoaaMkBFnExactFind
import Derived.Test.YtlpabbcgichaoaaMatBFnExactFind
section
namespace Go.Proofs.Ytlpabbcgichaoaa.PFnExactFind
open Go.RowKit Go.Proofs.Ytlpabbcgichaoaa.Lawful Go.Proofs.YtlpabbcgichaoaaW.PrintWords Go.Proofs.YtlpabbcgichaoaaW.PrintLast Go.Proofs.YtlpabbcgichaoaaW.PrintMore
attribute [local go_sem] max2_int min2_int max_two min_two max_three min_three max_four min_four   -- for this text's walks alone
set_option linter.unusedVariables false
set_option linter.unusedSimpArgs false
section
open Go.Proofs.Ytlpabbcgichaoaa.Lawful
set_option maxHeartbeats 16000000 in
set_option maxRecDepth 100000 in
theorem spec_can (E : l06E) (w : World) (hok : E.Ok) (k i j : Nat) (hk : k < E.ns.length) (hij : i ≤ j) (hj : j ≤ E.T.size) (hC : E.Can w (mu E.T.size k i j)) (kn : List Int) (ws : World) (hAt : E.At w ws kn) (hR : RB E.den E.ns.length E.T.size kn (mu E.T.size k i j + 1)) :
  Calls Try.prog 37 #[.pointer (some ⟨E.gG, 0, none⟩), .int .i64 (k : Int), .int .i64 (i : Int), .int .i64 (j : Int)] ws (E.Post w ws kn (mu E.T.size k i j + 1) (.bool (E.den k i j))) := by
 have hF := spec_find E w hok k i j hk hij hj hC
 obtain ⟨PG, PN, PK, gG, gK, BN, DN, L, cK, ns, T, den, spf⟩ := E
 have hu := Try.underlying82
 have hu2 := Try.underlying85
 obtain ⟨hb_, hg_, hn_, hk_⟩ := hAt
 dsimp only at hb_ hg_ hn_ hk_
 have HB := Aside0.mk hb_
 have HG := Aside0.mk hg_
 have HN := Aside0.mk hn_
 have HY := Aside0.mk hk_
 have HK := Aside0.mk (Kept.refl ws PK)
 clear hb_ hg_ hn_ hk_
 obtain ⟨hgood, hbig, hset, hdG, hdN, hT⟩ := hok
 dsimp only at hgood hbig hset hdG hdN hT hk hj hR hC hF ⊢
 have D_G_Y := Aside0.mk hdG
 have D_N_Y := Aside0.mk hdN
 have HR := Aside0.mk hR
 have SZ := Aside0.mk (show k < ns.length ∧ i ≤ j ∧ j ≤ T.size from ⟨hk, hij, hj⟩)
 have HL := Aside0.mk (show L = ns.length * (T.size + 1) * (T.size + 1) from (LR.len HY.out).trans hR.1)
 have HLT := ix_lt (N := ns.length) hk (Nat.le_trans hij hj) hj
 have HRT := hR.2 k i j hk hij hj (Nat.lt_succ_self _)
 obtain ⟨W1, hW⟩ : ∃ W_, W_ = T.size + 1 := ⟨_, rfl⟩
 obtain ⟨p1, hp1⟩ : ∃ p_, p_ = k * W1 := ⟨_, rfl⟩
 obtain ⟨q1, hq1⟩ : ∃ p_, p_ = p1 + i := ⟨_, rfl⟩
 obtain ⟨s1, hs1⟩ : ∃ p_, p_ = q1 * W1 := ⟨_, rfl⟩
 obtain ⟨at1, hat⟩ : ∃ p_, p_ = s1 + j := ⟨_, rfl⟩
 have hix : ix T.size k i j = at1 := by rw [hat, hs1, hq1, hp1, hW]; rfl
 have hsb : q1 ≤ s1 := by rw [hs1]; exact Nat.le_mul_of_pos_right _ (by rw [hW]; exact Nat.succ_pos _)
 have hb1 : at1 < 4611686018427387904 := by rw [← hix]; exact Nat.lt_trans HLT hbig
 have hbq : s1 ≤ at1 := by rw [hat]; exact Nat.le_add_right _ _
 have hbp : p1 ≤ q1 := by rw [hq1]; exact Nat.le_add_right _ _
 have hb2 : p1 < 9223372036854775808 := Nat.lt_trans (Nat.lt_of_le_of_lt (Nat.le_trans hbp (Nat.le_trans hsb hbq)) hb1) (by decide)
 have hb3 : q1 < 9223372036854775808 := Nat.lt_trans (Nat.lt_of_le_of_lt (Nat.le_trans hsb hbq) hb1) (by decide)
 have hb4 : s1 < 9223372036854775808 := Nat.lt_trans (Nat.lt_of_le_of_lt hbq hb1) (by decide)
 have hb5 : at1 < 9223372036854775808 := Nat.lt_trans hb1 (by decide)
 have hbw : W1 < 9223372036854775808 := by rw [hW]; omega
 have e1 : wrap64 ((T.size : Int) + 1) = (W1 : Int) := wrap_nat (by rw [hW]; rfl) hbw
 have e2 : wrap64 ((k : Int) * (W1 : Int)) = (p1 : Int) := wrap_nat (by rw [hp1]; exact (Int.natCast_mul _ _).symm) hb2
 have e3 : wrap64 ((p1 : Int) + (i : Int)) = (q1 : Int) := wrap_nat (by rw [hq1]; rfl) hb3
 have e4 : wrap64 ((q1 : Int) * (W1 : Int)) = (s1 : Int) := wrap_nat (by rw [hs1]; exact (Int.natCast_mul _ _).symm) hb4
 have e5 : wrap64 ((s1 : Int) + (j : Int)) = (at1 : Int) := wrap_nat (by rw [hat]; rfl) hb5
 have e1k : IntKind.i64.wrap ((T.size : Int) + 1) = (W1 : Int) := (i64_w _).trans e1
 have e2k : IntKind.i64.wrap ((k : Int) * (W1 : Int)) = (p1 : Int) := (i64_w _).trans e2
 have e3k : IntKind.i64.wrap ((p1 : Int) + (i : Int)) = (q1 : Int) := (i64_w _).trans e3
 have e4k : IntKind.i64.wrap ((q1 : Int) * (W1 : Int)) = (s1 : Int) := (i64_w _).trans e4
 have e5k : IntKind.i64.wrap ((s1 : Int) + (j : Int)) = (at1 : Int) := (i64_w _).trans e5
 have hlt : at1 < L := by rw [HL.out, ← hix]; exact HLT
 have HI := Aside0.mk hlt
 have HX := Aside0.mk hix
 have pa := eq_true (show (0 : Int) ≤ (at1 : Int) from Int.natCast_nonneg _)
 have qa := eq_true (show (at1 : Int) < (L : Int) from Int.ofNat_lt.2 hlt)
 have pk := eq_true (show (0 : Int) ≤ (k : Int) from Int.natCast_nonneg _)
 have qk := eq_true (show (k : Int) < (ns.length : Int) from Int.ofNat_lt.2 hk)
 have hent : kn.getD at1 0 = ent kn T.size k i j := by rw [← hix]; rfl
 obtain ⟨hy0, hy1⟩ := l06_at HY.out at1 hlt
 obtain ⟨x, hxk⟩ : ∃ x, ns[k]? = some x := ⟨_, List.getElem?_eq_getElem hk⟩
 obtain ⟨f0, f1, f2, f3, f4⟩ := x
 have HF := Aside0.mk (fun kn' ws' h1 h2 => hF f0 f1 f2 f3 f4 hxk kn' ws' h1 h2)
 have HRD := Aside0.mk (show rd_T85 ns (k : Int) = ⟨f0, f1, f2, f3, f4⟩ by unfold rd_T85; rw [Int.toNat_natCast, List.getD_eq_getElem?_getD, hxk]; rfl)
 try dsimp only at HF
 clear hgood hbig hset hdG hdN hT hC hF hR hk hij hj hW hp1 hq1 hs1 hat hix hsb hlt HLT hxk hb1 hb2 hb3 hb4 hb5 hbq hbp hbw
 replace jG := HG.out.c3
 go_enter Try.func37, Try.ntmps37
 rcases HRT with h0 | ⟨h1, hd⟩ | ⟨h1, hd⟩
 ·
  rw [hent, h0] at hy0
  clear hent h0
  have SK := Aside0.mk (show (0 : Int) ≤ (k : Int) ∧ (k : Int) < (ns.length : Int) from ⟨Int.natCast_nonneg _, Int.ofNat_lt.2 SZ.out.1⟩)
  obtain ⟨ad, ea, _⟩ := at_T85 HN.out.reads (k : Int) SK.out.1 SK.out.2
  subst ea
  have ST := Aside0.mk (St.refl ((HR.out).note SZ.out.1 SZ.out.2.1 SZ.out.2.2))
  rw [HX.out] at ST
  have HF1 := Aside0.mk (show ∀ (kn' : List Int) (ws' : World), l06E.At ⟨PG, PN, PK, gG, gK, some ad, DN, L, cK, ns, T, den, spf⟩ w ws' kn' → RB den ns.length T.size kn' (mu T.size k i j) → _ from fun kn' ws' h1 h2 => HF.out kn' ws' h1 h2)
  try dsimp only at HF1
  clear HF
  have e1E : ∀ kn2 : List Int, St den ns.length T.size (kn.set at1 1) kn2 (mu T.size k i j) → kn2.getD at1 0 = 1 := fun kn2 h => by have := St.asked HR.out SZ.out.1 SZ.out.2.1 SZ.out.2.2 (by rw [HX.out]; exact h); unfold ent at this; rw [HX.out] at this; exact this
  have e2E : ∀ kn2 : List Int, St den ns.length T.size (kn.set at1 1) kn2 (mu T.size k i j) → (kn2.set at1 2).getD at1 0 = 2 := fun kn2 h => by have := ent_two (h.1.1) SZ.out.1 (Nat.le_trans SZ.out.2.1 SZ.out.2.2) SZ.out.2.2; unfold ent at this; rw [HX.out] at this; exact this
  have E1 := Aside0.mk e1E
  have E2 := Aside0.mk e2E
  clear e1E e2E
  rcases hD : den k i j with _ | _
  ·
   rw [hD] at HF1
   go_wp2_with (first | ((with_reducible refine gate_store (t := 5) (p := 39) rfl ?_); refine l06_put1 HY.out HB.out at1 HI.out 1 rfl (t := 5) (p := 39) rfl rfl ?hr_1 ?_; (case hr_1 => first | (go_simp; done) | (go_simp; simp only [World.setCells, Nat.reduceAdd, Nat.zero_add]; done)); intro w2 hx hk hb; replace HG := ss hk HG D_G_Y.out; replace HN := Aside0.mk (HN.out.step hk D_N_Y.out); replace HK := Aside0.mk (HK.out.then_ hk (fun _ h_ => .inl h_)); replace HB := Aside0.mk hb; replace HY := Aside0.mk hx; clear hk hx hb hy0 hy1; obtain ⟨_, ea, ha0, ha1, ha2, ha3, ha4⟩ := at_T85 HN.out.reads (k : Int) SK.out.1 SK.out.2; cases ea; simp only [HRD.out, Int.toNat_natCast] at ha0 ha1 ha2 ha3 ha4; replace jG := HG.out.c3) | ((with_reducible refine gate_dst (N := 51) rfl ?_); refine gl_ (some 51) rfl rfl Try.func49 #[.pointer (some ⟨gG, 0, none⟩), .agg #[.int .i64 f0, .int .i64 f1, .string f2, .int .i64 f3, .int .i64 f4], .int .i64 (k : Int), .int .i64 (i : Int), .int .i64 (j : Int)] rfl rfl ?_; (with_reducible refine (HF1.out _ _ ⟨HB.out, HG.out, HN.out, HY.out⟩ (St.rb ST.out)).mono ?_); rintro e w2 ⟨kn2, rfl, hst_, ⟨hb_, hg_, hn_, hk_⟩, hkk_⟩; refine ⟨_, rfl, ?_⟩; dsimp only at hst_ hb_ hg_ hn_ hk_ hkk_; replace HB := Aside0.mk hb_; replace HG := Aside0.mk hg_; replace HN := Aside0.mk hn_; replace HY := Aside0.mk hk_; replace HK := Aside0.mk (HK.out.then_ hkk_ (fun _ h_ => .inl h_)); replace ST := Aside0.mk (ST.out.trans hst_); clear hb_ hg_ hn_ hk_ hkk_ hst_; replace jG := HG.out.c3; clear ha0 ha1 ha2 ha3 ha4; obtain ⟨hy0, hy1⟩ := l06_at HY.out at1 HI.out; rw [E1.out _ ST.out] at hy0))
   go_ret
   exact ⟨_, rfl, St.no HR.out SZ.out.1 SZ.out.2.1 SZ.out.2.2 (by rw [HX.out]; exact ST.out) hD, ⟨HB.out, HG.out, HN.out, HY.out⟩, HK.out⟩
  rw [hD] at HF1
  go_wp2_with (first | ((with_reducible refine gate_store (t := 5) (p := 39) rfl ?_); refine l06_put1 HY.out HB.out at1 HI.out 1 rfl (t := 5) (p := 39) rfl rfl ?hr_1 ?_; (case hr_1 => first | (go_simp; done) | (go_simp; simp only [World.setCells, Nat.reduceAdd, Nat.zero_add]; done)); intro w2 hx hk hb; replace HG := ss hk HG D_G_Y.out; replace HN := Aside0.mk (HN.out.step hk D_N_Y.out); replace HK := Aside0.mk (HK.out.then_ hk (fun _ h_ => .inl h_)); replace HB := Aside0.mk hb; replace HY := Aside0.mk hx; clear hk hx hb hy0 hy1; obtain ⟨_, ea, ha0, ha1, ha2, ha3, ha4⟩ := at_T85 HN.out.reads (k : Int) SK.out.1 SK.out.2; cases ea; simp only [HRD.out, Int.toNat_natCast] at ha0 ha1 ha2 ha3 ha4; replace jG := HG.out.c3) | ((with_reducible refine gate_dst (N := 51) rfl ?_); refine gl_ (some 51) rfl rfl Try.func49 #[.pointer (some ⟨gG, 0, none⟩), .agg #[.int .i64 f0, .int .i64 f1, .string f2, .int .i64 f3, .int .i64 f4], .int .i64 (k : Int), .int .i64 (i : Int), .int .i64 (j : Int)] rfl rfl ?_; (with_reducible refine (HF1.out _ _ ⟨HB.out, HG.out, HN.out, HY.out⟩ (St.rb ST.out)).mono ?_); rintro e w2 ⟨kn2, rfl, hst_, ⟨hb_, hg_, hn_, hk_⟩, hkk_⟩; refine ⟨_, rfl, ?_⟩; dsimp only at hst_ hb_ hg_ hn_ hk_ hkk_; replace HB := Aside0.mk hb_; replace HG := Aside0.mk hg_; replace HN := Aside0.mk hn_; replace HY := Aside0.mk hk_; replace HK := Aside0.mk (HK.out.then_ hkk_ (fun _ h_ => .inl h_)); replace ST := Aside0.mk (ST.out.trans hst_); clear hb_ hg_ hn_ hk_ hkk_ hst_; replace jG := HG.out.c3; clear ha0 ha1 ha2 ha3 ha4; obtain ⟨hy0, hy1⟩ := l06_at HY.out at1 HI.out) | ((with_reducible refine gate_store (t := 5) (p := 57) rfl ?_); refine l06_put1 HY.out HB.out at1 HI.out 2 rfl (t := 5) (p := 57) rfl rfl ?hr_2 ?_; (case hr_2 => first | (go_simp; done) | (go_simp; simp only [World.setCells, Nat.reduceAdd, Nat.zero_add]; done)); intro w2 hx hk hb; replace HG := ss hk HG D_G_Y.out; replace HN := Aside0.mk (HN.out.step hk D_N_Y.out); replace HK := Aside0.mk (HK.out.then_ hk (fun _ h_ => .inl h_)); replace HB := Aside0.mk hb; replace HY := Aside0.mk hx; clear hk hx hb hy0 hy1; obtain ⟨hy0, hy1⟩ := l06_at HY.out at1 HI.out; rw [E2.out _ ST.out] at hy0; replace jG := HG.out.c3))
  go_ret
  exact ⟨_, rfl, by have h_ := St.yes HR.out SZ.out.1 SZ.out.2.1 SZ.out.2.2 (by rw [HX.out]; exact ST.out) hD; rw [HX.out] at h_; exact h_, ⟨HB.out, HG.out, HN.out, HY.out⟩, HK.out⟩
 ·
  rw [hent, h1] at hy0
  clear hent h1
  go_wp2
  go_ret
  exact ⟨_, (by rw [hd]; rfl), St.refl HR.out, ⟨HB.out, HG.out, HN.out, HY.out⟩, HK.out⟩
 rw [hent, h1] at hy0
 clear hent h1
 go_wp2
 go_ret
 exact ⟨_, (by rw [hd]; rfl), St.refl HR.out, ⟨HB.out, HG.out, HN.out, HY.out⟩, HK.out⟩
theorem spec_any (E : l06E) (w : World) (hok : E.Ok) : ∀ m, E.Can w m := by
 intro m
 induction m with
 | zero => intro M k i j kn ws h; omega
 | succ m ih =>
  intro M k i j kn ws h hM hk hij hj hAt hR
  have hC : E.Can w (mu E.T.size k i j) := fun M' k' i' j' kn' ws' h' => ih M' k' i' j' kn' ws' (by omega)
  refine (spec_can E w hok k i j hk hij hj hC kn ws hAt (hR.down (by omega))).mono ?_
  rintro e w' ⟨kn', rfl, hst, hat, hkk⟩
  exact ⟨kn', rfl, hst.up hR (by omega), hat, hkk⟩
end
end Go.Proofs.Ytlpabbcgichaoaa.PFnExactFind
end
section
namespace Go.Proofs.Ytlpabbcgichaoaa.PFnExactFind
open Go.RowKit Go.Proofs.Ytlpabbcgichaoaa.Lawful Go.Proofs.YtlpabbcgichaoaaW.PrintWords Go.Proofs.YtlpabbcgichaoaaW.PrintLast Go.Proofs.YtlpabbcgichaoaaW.PrintMore
attribute [local go_sem] max2_int min2_int max_two min_two max_three min_three max_four min_four   -- for this text's walks alone
set_option linter.unusedVariables false
set_option linter.unusedSimpArgs false
section
open Go.Proofs.Ytlpabbcgichaoaa.Lawful
@[reducible] def l06Made (E : l06E) (w w' ws : World) (x : S31) (T : ByteArray) : Prop :=
 E.Ok ∧ E.T = T ∧ E.ns = (mk x []).1 ∧ Stands E.ns E.den E.spf (mk x []).2 (mat (fun i => bt T (i : Int)) T.size x) (sp (fun i => bt T (i : Int)) T.size x) ∧ (∃ kn, E.At w w' kn ∧ ∀ M, RB E.den E.ns.length T.size kn M) ∧ (∀ k, E.PG k → ws.heap.size ≤ k) ∧ (∀ k, E.PN k → ws.heap.size ≤ k) ∧ (∀ k, E.PK k → ws.heap.size ≤ k) ∧ Kept ws w' (fun _ => False)
set_option maxHeartbeats 16000000 in
set_option maxRecDepth 100000 in
theorem spec_Machine1 (w ws : World) (x : S31) (T : ByteArray) (A4 : Option Addr) (c4 : Nat) (hB : Below w.heap.size w ws) (hr : Kd.C k31 w A4 x.f4.length x.f4) (hc : x.f4.length ≤ c4) (hw : rxW x) (hn : cnt x ≤ 2000) (hs : rxT x) (hT : T.size ≤ 120) :
  Calls Try.prog 36 #[.agg #[.int .i64 x.f0, .int .i64 x.f1, .int .i64 x.f2, .string x.f3, .slice A4 x.f4.length c4], .string T] ws fun e w' => ∃ E : l06E, e = .returned (.tuple #[.pointer (some ⟨E.gG, 0, none⟩), .int .i64 ((mk x []).2 : Int)]) ∧ l06Made E w w' ws x T := by
 have hu := Try.underlying82
 have hu2 := Try.underlying85
 have hu3 := Try.underlying31
 have HR4 := Aside0.mk hr
 have HC4 := Aside0.mk hc
 obtain ⟨den, spf, hgood, hst⟩ := mk_root (fun i => bt T (i : Int)) T.size x hw
 have hset := (mk_T _).1 x (Nat.le_refl _) hs [] (fun y hy => by simp at hy)
 have hlen := (mk_len _).1 x (Nat.le_refl _) hw []
 have LM := (fun (ws' : World) (PG : Nat → Prop) (gG : Nat) h => spec_make w PG gG T _ x (Nat.le_refl _) hw ws' (fun _ => False) none 0 [] A4 c4 hr hc (by simp; omega) h)
 obtain ⟨⟨m1, r1⟩, hq⟩ : ∃ q : List S85 × Nat, mk x [] = q := ⟨_, rfl⟩
 rw [hq] at hgood hst hset hlen LM ⊢
 dsimp only at hgood hst hset hlen LM ⊢
 replace LM := Aside0.mk LM
 have HGD := Aside0.mk hgood
 have HST := Aside0.mk hst
 have HSE := Aside0.mk hset
 have HQ := Aside0.mk hq
 have hm0 : r1 < m1.length := hst.1
 have hm1 : m1.length < 90000 := by simp at hlen; omega
 obtain ⟨W1, hW⟩ : ∃ W_, W_ = T.size + 1 := ⟨_, rfl⟩
 obtain ⟨p1, hp1⟩ : ∃ p_, p_ = m1.length * W1 := ⟨_, rfl⟩
 obtain ⟨q1, hq1⟩ : ∃ p_, p_ = p1 * W1 := ⟨_, rfl⟩
 have hb1 : p1 ≤ 90000 * 121 := by rw [hp1]; exact Nat.mul_le_mul (by omega) (by omega)
 have hb2 : q1 ≤ 90000 * 121 * 121 := by rw [hq1]; exact Nat.mul_le_mul hb1 (by omega)
 have hpos : 0 < q1 := by rw [hq1, hp1]; exact Nat.mul_pos (Nat.mul_pos (by omega) (by omega)) (by omega)
 have HQ1 := Aside0.mk (show q1 = m1.length * (T.size + 1) * (T.size + 1) ∧ 0 < q1 ∧ q1 ≤ 90000 * 121 * 121 from ⟨by rw [hq1, hp1, hW], hpos, hb2⟩)
 have HT := Aside0.mk hT
 have e1 : wrap64 ((T.size : Int) + 1) = (W1 : Int) := wrap_nat (by rw [hW]; rfl) (by omega)
 have e2 : wrap64 ((m1.length : Int) * (W1 : Int)) = (p1 : Int) := wrap_nat (by rw [hp1]; exact (Int.natCast_mul _ _).symm) (by omega)
 have e3 : wrap64 ((p1 : Int) * (W1 : Int)) = (q1 : Int) := wrap_nat (by rw [hq1]; exact (Int.natCast_mul _ _).symm) (by omega)
 have e1k : IntKind.i64.wrap ((T.size : Int) + 1) = (W1 : Int) := (i64_w _).trans e1
 have e2k : IntKind.i64.wrap ((m1.length : Int) * (W1 : Int)) = (p1 : Int) := (i64_w _).trans e2
 have e3k : IntKind.i64.wrap ((p1 : Int) * (W1 : Int)) = (q1 : Int) := (i64_w _).trans e3
 have HB := Aside0.mk hB
 have HK := Aside0.mk (Kept.refl ws (fun _ => False))
 obtain ⟨f0, f1, f2, f3, l⟩ := x
 dsimp only at LM
 clear hr hc hw hn hs hT hgood hst hset hlen hq hm0 hm1 hW hp1 hq1 hb1 hb2 hpos hB
 obtain ⟨zs, hzs⟩ : ∃ z_ : List Int, z_ = List.replicate q1 0 := ⟨_, rfl⟩
 have Nzs := Aside0.mk hzs
 clear hzs
 go_enter Try.func36, Try.ntmps36
 go_wp2_with (first | ((with_reducible refine gate_dst (N := 2) rfl ?_); refine bx_ (N := 2) (cs := #[.int .i64 f0, .int .i64 f1, .int .i64 f2, .string f3, .slice A4 l.length c4]) (t := 31) rfl rfl ?hr_1 ?_; (case hr_1 => first | (go_simp; done) | (go_simp; rfl)); intro gX1 hg w2 hb hk PX1 hPX1 HX1; have GEX1 := Aside0.mk (gen_ hg HB.out); have RRX1 := Aside0.mk (show ∀ k_, PX1 k_ → (fun _ => False) k_ ∨ ws.heap.size ≤ k_ from fun k_ h_ => .inr (Nat.le_trans HK.out.1 (hPX1 k_ h_).1)); replace HK := Aside0.mk (HK.out.then_ hk no_R); replace HB := Aside0.mk (below_step HB.out hb); clear hb hk hg hPX1; replace jX1 := HX1.out.c5) | ((with_reducible refine gate_dst (N := 11) rfl ?_); refine bx_ (N := 11) (cs := #[.slice none 0 0, .string T, .slice none 0 0]) (t := 82) rfl rfl ?hr_2 ?_; (case hr_2 => first | (go_simp; done) | (go_simp; rfl)); intro gX2 hg w2 hb hk PX2 hPX2 HX2; have GEX2 := Aside0.mk (gen_ hg HB.out); have D_X1_X2 := na hPX2 HX1; have RRX2 := Aside0.mk (show ∀ k_, PX2 k_ → (fun _ => False) k_ ∨ ws.heap.size ≤ k_ from fun k_ h_ => .inr (Nat.le_trans HK.out.1 (hPX2 k_ h_).1)); replace HX1 := sn hk HX1; replace HK := Aside0.mk (HK.out.then_ hk no_R); replace HB := Aside0.mk (below_step HB.out hb); clear hb hk hg hPX2; replace jX1 := HX1.out.c5; replace jX2 := HX2.out.c3) | ((with_reducible refine gate_callee (f := 48) rfl ?_); refine gl_ (some 14) rfl rfl Try.func48 #[.pointer (some ⟨gX2, 0, none⟩), .agg #[.int .i64 f0, .int .i64 f1, .int .i64 f2, .string f3, .slice A4 l.length c4]] rfl rfl ?_; have hat_ := (show l06B w _ PX2 (fun _ => False) gX2 none 0 T [] from ⟨HB.out, HX2.out, LR.nil _ _ _ _, fun _ _ h_ => h_, GEX2.out⟩); (with_reducible refine (LM.out _ _ _ hat_).mono ?_); rintro e w2 ⟨BN, DN, PN, rfl, ⟨hb_, hg_, hn_, hd_, hge_⟩, hrr_, hkk_⟩; refine ⟨_, rfl, ?_⟩; clear hat_; have D_X1_N := Aside0.mk (apart_app hrr_ HX1.out.lt (apart_or D_X1_X2.out (fun _ _ h_ => h_))); replace HX1 := Aside0.mk (HX1.out.step hkk_ (apart_or D_X1_X2.out (fun _ _ h_ => h_))); have RRN := Aside0.mk (rr_app hrr_ HK.out.1 (rr_or RRX2.out (fun _ h_ => h_.elim))); replace HK := Aside0.mk (HK.out.then_ hkk_ (rr_or RRX2.out (fun _ h_ => h_.elim))); replace HB := Aside0.mk hb_; replace HX2 := Aside0.mk hg_; have HN := Aside0.mk hn_; have D_X2_N := Aside0.mk hd_; clear hb_ hg_ hn_ hd_ hge_ hrr_ hkk_; replace jX1 := HX1.out.c5; replace jX2 := HX2.out.c3) | ((with_reducible refine gate_dst (N := 28) rfl ?_); refine Kd.R_make (Kd.int .u8) _ 5 rfl (N := 28) rfl 80 _ _ rfl (q1 : Int) rfl rfl Try.underlying80 (.int .u8 0) 1 info5 rfl (by decide) (by omega) 0 (ok := fun _ => True) (okp := fun _ => True) rfl (fun _ hk => hk) trivial (Int.natCast_nonneg _) (by rw [Int.toNat_natCast]; have := HQ1.out; omega) (Below.refl _ _) (Nat.le_refl _) ?_; intro vY w2 hrY hb hg_ hnew_; clear hg_ hnew_; rw [Int.toNat_natCast, ← Nzs.out] at hrY; have hk := kept_below hb; obtain ⟨PY, hPY, HLY⟩ := LR.fresh rfl HB.out hrY; have HY := Aside0.mk HLY; clear HLY hrY; have D_X1_Y := na hPY HX1; have D_X2_Y := na hPY HX2; have D_N_Y := Aside0.mk (new_apart HN.out.lt hPY); have RRY := Aside0.mk (show ∀ k_, PY k_ → (fun _ => False) k_ ∨ ws.heap.size ≤ k_ from fun k_ h_ => .inr (Nat.le_trans HK.out.1 (hPY k_ h_).1)); replace HX1 := sn hk HX1; replace HX2 := sn hk HX2; replace HN := Aside0.mk (HN.out.step hk no_S); replace HK := Aside0.mk (HK.out.then_ hk no_R); clear hPY; obtain ⟨BY, DY, e_Y⟩ := HY.out.val; subst e_Y; replace HB := Aside0.mk (below_step HB.out hb); clear hb hk; replace jX1 := HX1.out.c5; replace jX2 := HX2.out.c3) | ((with_reducible refine gate_store (t := 80) (p := 30) rfl ?_); refine LB.stored HX2.out HB.out GEX2.out 2 [.slice BY zs.length DY] rfl (t := 80) (p := 30) rfl rfl ?hr_3 ?_; (case hr_3 => first | (go_simp; done) | (go_simp; simp only [World.setCells, Nat.reduceAdd, Nat.zero_add]; done)); intro w2 hx hk hb; replace HX1 := ss hk HX1 D_X1_X2.out; replace HN := Aside0.mk (HN.out.step hk (apart_symm D_X2_N.out)); replace HY := Aside0.mk (HY.out.step hk (apart_symm D_X2_Y.out)); replace HK := Aside0.mk (HK.out.then_ hk RRX2.out); replace HB := Aside0.mk hb; replace HX2 := Aside0.mk (show LB w2 PX2 gX2 82 #[.slice BN m1.length DN, .string T, .slice BY zs.length DY] from hx); clear hk hx hb; replace jX1 := HX1.out.c5; replace jX2 := HX2.out.c3))
 go_ret2
 have hzl : zs.length = q1 := by rw [Nzs.out, List.length_replicate]
 obtain ⟨gK, cK, he, hge, hltK, _⟩ := Kd.R_form HY.out.1 (by rw [hzl]; exact HQ1.out.2.1)
 injection he with he1 _ he3
 subst he1 he3
 refine ⟨⟨PX2, (fun k => PN k ∧ w.heap.size ≤ k), PY, gX2, gK, BN, DN, zs.length, DY, m1, T, den, spf⟩, rfl, ?_, rfl, (by rw [HQ.out]), (by rw [HQ.out]; exact HST.out), ⟨zs, ⟨HB.out, HX2.out, HN.out.toLN, HY.out⟩, fun M => ?_⟩, fun k hk => (RRX2.out k hk).resolve_left (fun h => h), fun k hk => (RRN.out k hk.1).resolve_left (fun h => h), fun k hk => (RRY.out k hk).resolve_left (fun h => h), HK.out⟩
 ·
  refine ⟨HGD.out, ?_, HSE.out, D_X2_Y.out, fun k hk => D_N_Y.out k hk.1, ?_⟩
  ·
   show m1.length * (T.size + 1) * (T.size + 1) < 4611686018427387904
   rw [← HQ1.out.1]; have := HQ1.out; omega
  show T.size < 4611686018427387904
  have := HT.out; omega
 rw [Nzs.out]; exact RB_zero den m1.length T.size M q1 HQ1.out.1
end
end Go.Proofs.Ytlpabbcgichaoaa.PFnExactFind
end
