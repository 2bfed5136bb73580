/- The program's matcher: its nodes are numbered. -/
import Derived.Test.YtlpabbcgichaoaaImDFnExactFind
import Derived.Deep.QuietTactic
import Derived.BigQuiet
import Derived.StillTailTactics
import Derived.Outline
import Derived.Deep.RegionHeld3
import Derived.Deep.Cut
import Derived.Test.YtlpabbcgichaoaaHw
import Derived.Test.YtlpabbcgichaoaaPk
import Derived.Test.YtlpabbcgichaoaaPq
namespace Go.Proofs.Ytlpabbcgichaoaa.PFnExactFind
open Go.RowKit Go.Proofs.Ytlpabbcgichaoaa.Lawful Go.Proofs.YtlpabbcgichaoaaW.PrintWords Go.Proofs.YtlpabbcgichaoaaW.PrintLast Go.Proofs.YtlpabbcgichaoaaW.PrintMore
attribute [local go_sem] max2_int min2_int max_two min_two max_three min_three max_four min_four   -- for this text's walks alone
set_option linter.unusedVariables false
set_option linter.unusedSimpArgs false
section
open Go.Proofs.Ytlpabbcgichaoaa.Lawful
@[reducible] def imB (w ws : World) (PG PN : Nat → Prop) (g : Nat) (B : Option Addr) (D : Nat) (T : ByteArray) (VE VR VG : Value) (ns : List (S31 × List Int)) : Prop :=
 Below w.heap.size w ws ∧ LB ws PG g 74 #[.string T, .slice B ns.length D, VE, VR, VG] ∧ LM kNA 76 ws w.heap.size PN (.slice B ns.length D) ns ∧ (∀ k, PG k → ¬ PN k) ∧ w.heap.size ≤ g ∧ ∀ k, k < w.heap.size → PN k
@[reducible] def imBP (w ws : World) (PG PN : Nat → Prop) (g : Nat) (T : ByteArray) (VE VR VG : Value) (ns : List (S31 × List Int)) (v : Value) (e : Ending) (w' : World) : Prop :=
 ∃ (B : Option Addr) (D : Nat) (PN' : Nat → Prop), e = .returned v ∧ imB w w' PG PN' g B D T VE VR VG ns ∧ (∀ k, PN' k → (PG k ∨ PN k) ∨ ws.heap.size ≤ k) ∧ Kept ws w' (fun k_ => PG k_ ∨ PN k_)
def impl_add.T2 : Bool × List (List Nat × List Nat) := (true, [([], []), ([], []), ([1], [1]), ([2], [2]), ([3], [3]), ([], []), ([5], [5]), ([6], [6]), ([4, 7], [4, 7]), ([0, 0, 1, 2, 3, 4, 5, 6, 7, 8], [0]), ([9, 0, 1, 2, 3, 4, 5, 6, 7, 8], [9]), ([10, 8, 8, 0, 1, 2, 3, 4, 5, 6, 7, 8], [8, 10])])
def impl_add.B2 : List Nat := [0, 0, 2, 6, 14, 0, 32, 96, 254, 511, 1023, 2047]
theorem impl_add.tab2 : rtab .any (opsOf Try.f44 2) = impl_add.T2 := by kernel_rfl
theorem impl_add.bits2 : waitsOk impl_add.T2.2 impl_add.B2 = true := by kernel_rfl
set_option maxHeartbeats 16000000 in
set_option maxRecDepth 100000 in
theorem impl_add (w : World) (PG PA : Nat → Prop) (gG : Nat) (T : ByteArray) (VE VR VG : Value) (hPA : ∀ k, PA k → k < w.heap.size) : ∀ (N : Nat) (x : S31), SizeOf.sizeOf x ≤ N → ∀ (ws : World) (PN : Nat → Prop) (BN : Option Addr) (DN : Nat) (ns : List (S31 × List Int)) (A4 : Option Addr) (c4 : Nat), Kd.F k31 w PA A4 x.f4.length x.f4 → x.f4.length ≤ c4 → ns.length + cnt x < 1099511627776 → imB w ws PG PN gG BN DN T VE VR VG ns →
  Calls Try.prog 44 #[.pointer (some ⟨gG, 0, none⟩), .agg #[.int .i64 x.f0, .int .i64 x.f1, .int .i64 x.f2, .string x.f3, .slice A4 x.f4.length c4]] ws (imBP w ws PG PN gG T VE VR VG (ad x ns) (.int .i64 (ns.length : Int))) := by
 intro N
 induction N with
 | zero => intro x hx; cases x; simp at hx
 | succ N ih =>
 rintro ⟨f0, f1, f2, f3, l⟩ hx ws PN BN DN ns A4 c4 hr hc hl hAt
 dsimp only at hr hc hl ⊢
 have HLS := Aside0.mk (show SizeOf.sizeOf l ≤ N by simp at hx; omega)
 rw [cnt] at hl
 have IH := Aside0.mk ih
 have HPA := Aside0.mk hPA
 have HV := Aside0.mk hr
 have HC4 := Aside0.mk hc
 have HLN := Aside0.mk hl
 have HCL := Aside0.mk (cntL_ge l)
 clear ih hx hPA hr hc hl
 have hu := Try.underlying74
 have hu2 := Try.underlying76
 have hu3 := Try.underlying31
 obtain ⟨hb_, hg_, hn_, hd_, hge_, hold_⟩ := hAt
 have HB := Aside0.mk hb_
 have HG := Aside0.mk hg_
 have HN := Aside0.mk hn_
 have D_G_N := Aside0.mk hd_
 have GEG := Aside0.mk hge_
 have OLDN := Aside0.mk hold_
 have HK := Aside0.mk (Kept.refl ws (fun k_ => PG k_ ∨ PN k_))
 have RRG := Aside0.mk (show ∀ k_, PG k_ → (fun k_ => PG k_ ∨ PN k_) k_ ∨ ws.heap.size ≤ k_ from fun _ h_ => .inl (.inl h_))
 have RRN := Aside0.mk (show ∀ k_, PN k_ → (fun k_ => PG k_ ∨ PN k_) k_ ∨ ws.heap.size ≤ k_ from fun _ h_ => .inl (.inr h_))
 clear hb_ hg_ hn_ hd_ hge_ hold_
 obtain ⟨n0, hn0⟩ : ∃ q : List (S31 × List Int), q = ns ++ [((⟨f0, f1, f2, f3, l⟩ : S31), [])] := ⟨_, rfl⟩
 have Nn0 := Aside0.mk hn0
 have hl0 : n0.length = ns.length + 1 := by rw [hn0]; simp
 have HL0 := Aside0.mk hl0
 obtain ⟨⟨nf, kf⟩, hqf⟩ : ∃ q : List (S31 × List Int) × List Int, adL l n0 = q := ⟨_, rfl⟩
 have hnf : nf.length = n0.length + cntL l := by have := (ad_len _).2 l (Nat.le_refl _) n0; rw [hqf] at this; exact this
 have HNF := Aside0.mk hnf
 obtain ⟨yf, hyf⟩ : ∃ q : List (S31 × List Int), nf.set ns.length ((⟨f0, f1, f2, f3, l⟩ : S31), kf) = q := ⟨_, rfl⟩
 have em : ad (⟨f0, f1, f2, f3, l⟩ : S31) ns = yf := by rw [ad]; dsimp only; rw [← hn0, hqf]; exact hyf
 rw [em]
 have HYF := Aside0.mk hyf
 have HQF := Aside0.mk hqf
 have hat0 : nf[ns.length]? = some ((⟨f0, f1, f2, f3, l⟩ : S31), []) := by have := ((ad_good _).2 l (Nat.le_refl _) n0).2.1 ns.length (by omega); rw [hqf] at this; rw [this, hn0]; simp
 have HAT := Aside0.mk hat0
 obtain ⟨ks0, hks⟩ : ∃ q : List Int, q = [] := ⟨_, rfl⟩
 have Nks0 := Aside0.mk hks
 have hwl : wrap64 ((n0.length : Int) - 1) = (ns.length : Int) := by have := HLN.out; unfold wrap64; omega
 clear hn0 hl0 hqf hnf hyf em hat0 hks hwl
 replace jG := HG.out.c5
 go_enter Try.func44, Try.ntmps44
 go_upto_region 2 with (first | ((with_reducible refine gate_dst (N := 3) rfl ?_); refine bx_ (N := 3) (cs := #[.int .i64 f0, .int .i64 f1, .int .i64 f2, .string f3, .slice A4 l.length c4]) (t := 31) rfl rfl ?hr_1 ?_; (case hr_1 => first | (go_simp; done) | (go_simp; rfl)); intro gX1 hg w2 hb hk PX1 hPX1 HX1; have GEX1 := Aside0.mk (gen_ hg HB.out); have D_N_X1 := Aside0.mk (new_apart HN.out.lt hPX1); have D_G_X1 := na hPX1 HG; have RRX1 := Aside0.mk (rrn HK.out hPX1); replace HN := Aside0.mk (HN.out.step hk no_S); replace HG := sn hk HG; replace HK := Aside0.mk (HK.out.then_ hk no_R); replace HB := Aside0.mk (below_step HB.out hb); clear hb hk hg hPX1; replace jG := HG.out.c5; replace jX1 := HX1.out.c5))
 refine start_ (n := 12) (S := fun w' => w'.cell? ⟨gG, 1, none⟩ = some (.slice BN ns.length DN) ∧ w'.cell? ⟨gX1, 0, none⟩ = some (.int .i64 f0) ∧ w'.cell? ⟨gX1, 1, none⟩ = some (.int .i64 f1) ∧ w'.cell? ⟨gX1, 2, none⟩ = some (.int .i64 f2) ∧ w'.cell? ⟨gX1, 3, none⟩ = some (.string f3) ∧ w'.cell? ⟨gX1, 4, none⟩ = some (.slice A4 l.length c4)) (ds := [11]) #[false, false, false, false, false, false, false, false, false, false, false, false] (by kernel_rfl) rfl rfl ⟨jG.2.2.1, jX1.1, jX1.2.2.1, jX1.2.2.2.2.1, jX1.2.2.2.2.2.2.1, jX1.2.2.2.2.2.2.2.2.1⟩ (fun hHeld => ?_)
 refine with_tabW impl_add.tab2 impl_add.bits2 (fun HT_ HW_ => ?_)
 generalize hwd_ : World.drew w2 = wd_ at hHeld ⊢
 have hk := kept_drew hwd_
 replace HN := Aside0.mk (HN.out.step hk no_S)
 replace HG := sn hk HG
 replace HX1 := sn hk HX1
 replace HK := Aside0.mk (HK.out.then_ hk no_R)
 replace HB := Aside0.mk (below_drewd HB.out hwd_)
 clear hk hwd_
 replace jG := HG.out.c5
 replace jX1 := HX1.out.c5
 refine pu 0 14 HT_.out rfl rfl rfl ?_
 refine pu 1 15 HT_.out rfl rfl rfl ?_
 refine pu 2 16 HT_.out rfl rfl rfl ?_
 refine pu 3 17 HT_.out rfl rfl rfl ?_
 refine tk 4 18 HT_.out HW_.out hHeld rfl rfl rfl ?_
 refine tk 5 19 HT_.out HW_.out hHeld rfl rfl rfl ?_
 refine pu 6 20 HT_.out rfl rfl rfl ?_
 refine on_ 7 (some 21) HT_.out rfl rfl fun K hK => ?_
 refine event_step (by rfl) (by first | (go_simp; exact ⟨rfl, rfl⟩) | (go_simp; done) | (go_simp; rfl)) ?_
 refine hK.out _ _ ⟨(pw_cell_below (below_alloc (Below.refl _ _) _) jG.2.2.1), (pw_cell_below (below_alloc (Below.refl _ _) _) jX1.1), (pw_cell_below (below_alloc (Below.refl _ _) _) jX1.2.2.1), (pw_cell_below (below_alloc (Below.refl _ _) _) jX1.2.2.2.2.1), (pw_cell_below (below_alloc (Below.refl _ _) _) jX1.2.2.2.2.2.2.1), (pw_cell_below (below_alloc (Below.refl _ _) _) jX1.2.2.2.2.2.2.2.2.1)⟩ (fun hHeld => ?_)
 clear hK K
 refine norm_ (a' := ?_) ?_ ?_
 rotate_left
 ·
  show Act.put _ (some 21) _ = _
  simp only [Act.put, List.setIfInBounds_toArray, List.set_cons_zero, List.set_cons_succ, i64_w, i32_w]
  rfl
 refine on_ 8 (some 22) HT_.out rfl rfl fun K hK => ?_
 refine LM.append_in_step kNA (w0 := w) (by rfl) (.tmp 18) (.tmp 21) 72 76 (.agg #[.int .i64 0, .int .i64 0, .int .i64 0, .string ⟨#[]⟩, .slice none 0 0, .slice none 0 0]) 88 rfl Try.underlying72 infoNA rfl (by decide) (by omega) (.slice BN ns.length DN) ns ((⟨f0, f1, f2, f3, l⟩ : S31), []) [.int .i64 f0, .int .i64 f1, .int .i64 f2, .string f3, .slice A4 l.length c4, .slice none 0 0] rfl rfl (by simp) HN.out (kNA_mkF (⟨f0, f1, f2, f3, l⟩ : S31) [] HC4.out (F_up HV.out HB.out) (Nat.le_refl _) (Kd.F_nil _ _ _)) (fun k_ h_ => ⟨OLDN.out k_ (HPA.out k_ h_), HPA.out k_ h_⟩) HB.out ?aL_2 ?_
 (case aL_2 => have := HLN.out; omega)
 intro PN2 v_ w2 HL hb hk hR0
 have OLDN2 := Aside0.mk (show ∀ k, k < w.heap.size → PN2 k from fun k h_ => (hR0 k).2 ⟨.inl (OLDN.out k h_), Nat.lt_of_lt_of_le h_ hb.size⟩)
 have hR := fun k h_ => ((hR0 k).1 h_).1
 clear hR0 OLDN
 have D_G_N2 := Aside0.mk (apart_app hR HG.out.lt D_G_N.out)
 have D_X1_N2 := Aside0.mk (apart_app hR HX1.out.lt (apart_symm D_N_X1.out))
 have RRN2 := Aside0.mk (show ∀ k_, PN2 k_ → (fun k_ => PG k_ ∨ PN k_) k_ ∨ ws.heap.size ≤ k_ from rr_app hR HK.out.1 RRN.out)
 replace HG := ss hk HG D_G_N.out
 replace HX1 := ss hk HX1 (apart_symm D_N_X1.out)
 replace HK := Aside0.mk (HK.out.then_ hk RRN.out)
 rw [← Nn0.out] at HL
 have HN2 := Aside0.mk HL
 replace HB := Aside0.mk hb
 clear hR HL hb hk HN
 obtain ⟨BN2, DN2, e_N2⟩ := HN2.out.val
 subst e_N2
 replace jG := HG.out.c5
 replace jX1 := HX1.out.c5
 refine hK.out _ _ ⟨jG.2.2.1, jX1.1, jX1.2.2.1, jX1.2.2.2.2.1, jX1.2.2.2.2.2.2.1, jX1.2.2.2.2.2.2.2.2.1⟩ (fun hHeld => ?_)
 clear hK K
 refine norm_ (a' := ?_) ?_ ?_
 rotate_left
 ·
  show Act.put _ (some 22) _ = _
  simp only [Act.put, List.setIfInBounds_toArray, List.set_cons_zero, List.set_cons_succ, i64_w, i32_w]
  rfl
 refine pu 9 23 HT_.out rfl rfl rfl ?_
 refine pu 10 24 HT_.out rfl rfl rfl ?_
 refine la_ 11 none HT_.out rfl rfl fun K hK => ?_
 refine LB.stored_step HG.out HB.out GEG.out 1 [.slice BN2 n0.length DN2] (by rfl) rfl ?hr_3 ?_
 (case hr_3 => first | (go_simp; done) | (go_simp; simp only [World.setCells, Nat.reduceAdd, Nat.zero_add]; done))
 intro w2 hx hk hb
 replace HX1 := ss hk HX1 (apart_symm D_G_X1.out)
 replace HN2 := Aside0.mk (HN2.out.step hk (apart_symm D_G_N2.out))
 replace HK := Aside0.mk (HK.out.then_ hk RRG.out)
 replace HB := Aside0.mk hb
 replace HG := Aside0.mk (show LB w2 PG gG 74 #[.string T, .slice BN2 n0.length DN2, VE, VR, VG] from hx)
 clear hk hx hb
 replace jG := HG.out.c5
 replace jX1 := HX1.out.c5
 refine hK.out _ _ ?_
 clear hK K
 refine done_ (done_of HT_.out (by kernel_rfl)) ?_
 go_wp2_with (first | ((with_reducible refine gate_dst (N := 25) rfl ?_); refine Kd.R_lit (Kd.int .i64) _ 3 ?hg_4 (N := 25) ?hd_4 (xs := []) (inner := []) (ok := fun _ => True) (okp := fun _ => True) ?hr_4 ?hp_4 (fun _ hk => hk) trivial (Below.refl _ _) (Nat.le_refl _) (by simp) ?_; (case hd_4 => rfl); (case hg_4 => rfl); (case hr_4 => first | (go_simp; done) | (go_simp; rfl)); (case hp_4 => exact (Reps.none _ _)); intro vF3 w2 hrF3 hb hg_ hnew_; clear hg_ hnew_; rw [← Nks0.out] at hrF3; have hk := kept_below hb; obtain ⟨PF3, hPF3, HLF3⟩ := LR.fresh rfl HB.out hrF3; have HF3 := Aside0.mk HLF3; clear HLF3 hrF3; have D_G_F3 := na hPF3 HG; have D_X1_F3 := na hPF3 HX1; have D_N2_F3 := Aside0.mk (new_apart HN2.out.lt hPF3); have RRF3 := Aside0.mk (rrn HK.out hPF3); replace HG := sn hk HG; replace HX1 := sn hk HX1; replace HN2 := Aside0.mk (HN2.out.step hk no_S); replace HK := Aside0.mk (HK.out.then_ hk no_R); clear hPF3; obtain ⟨BF3, DF3, e_F3⟩ := HF3.out.val; subst e_F3; replace HB := Aside0.mk (below_step HB.out hb); clear hb hk; replace jG := HG.out.c5; replace jX1 := HX1.out.c5))
 go_loopg [6, 29] (l.length + 1) (fun kq v6 v29 w' => ∃ (i : Nat) (m1 : List (S31 × List Int)) (k1 : List Int) (B1 : Option Addr) (D1 : Nat) (P1 : Nat → Prop) (B2 : Option Addr) (D2 : Nat) (P2 : Nat → Prop), v6 = .slice B2 k1.length D2 ∧ v29 = .int .i64 (i : Int) ∧ Aside0 (i + kq = l.length + 1 ∧ 0 < kq) ∧ Aside0 (k1.length = i) ∧ Aside0 (kf = k1 ++ (adL (l.drop i) m1).2 ∧ nf = (adL (l.drop i) m1).1 ∧ m1.length ≤ nf.length) ∧ Aside0 (Below w.heap.size w w') ∧ Aside0 (LB w' PG gG 74 #[.string T, .slice B1 m1.length D1, VE, VR, VG]) ∧ Aside0 (LM kNA 76 w' w.heap.size P1 (.slice B1 m1.length D1) m1) ∧ Aside0 (∀ k, PG k → ¬ P1 k) ∧ Aside0 (∀ k_, P1 k_ → (PG k_ ∨ PN k_) ∨ ws.heap.size ≤ k_) ∧ Aside0 (∀ k, k < w.heap.size → P1 k) ∧ Aside0 (Kept ws w' (fun k_ => PG k_ ∨ PN k_)) ∧ Aside0 (LB w' PX1 gX1 31 #[.int .i64 f0, .int .i64 f1, .int .i64 f2, .string f3, .slice A4 l.length c4]) ∧ Aside0 (∀ k, PX1 k → ¬ P1 k) ∧ Aside0 (LR (Kd.int .i64) 3 w' w.heap.size P2 (.slice B2 k1.length D2) k1) ∧ Aside0 (∀ k, PG k → ¬ P2 k) ∧ Aside0 (∀ k, P2 k → ¬ P1 k) ∧ Aside0 (∀ k, PX1 k → ¬ P2 k) ∧ Aside0 (∀ k_, P2 k_ → (PG k_ ∨ PN k_) ∨ ws.heap.size ≤ k_))
 case atStart => exact ⟨0, n0, ks0, _, _, _, _, _, _, rfl, rfl, ⟨by omega, by omega⟩, ⟨by rw [Nks0.out]; rfl⟩, ⟨by rw [List.drop_zero, HQF.out, Nks0.out]; rfl, by rw [List.drop_zero, HQF.out], by have := HNF.out; omega⟩, HB, HG, HN2, D_G_N2, RRN2, OLDN2, HK, HX1, ⟨D_X1_N2.out⟩, HF3, ⟨D_G_F3.out⟩, ⟨(apart_symm D_N2_F3.out)⟩, ⟨D_X1_F3.out⟩, RRF3⟩
 case round =>
  clear HB HG HN2 D_G_N2 RRN2 OLDN2 HK HX1 HF3 RRF3
  try clear jG
  try clear jX1
  obtain ⟨i, m1, k1, BM, DM, PM, BQ, DQ, PQ, rfl, rfl, HI, HKL, HS, HB, HG, HM, D_G_M, RRM, OLDM, HK, HX1, D_X1_M, HQ, D_G_Q, D_Q_M, D_X1_Q, RRQ⟩ := hrel
  replace jG := HG.out.c5
  replace jX1 := HX1.out.c5
  by_cases hlt : i < l.length
  ·
   obtain ⟨g1, rfl⟩ : ∃ k_, gk = k_ + 1 := ⟨gk - 1, by have := HI.out; omega⟩
   obtain ⟨y, hy⟩ : ∃ y_, y_ = l.getD i z31 := ⟨_, rfl⟩
   have hyi : l[i]? = some y := by rw [hy, List.getD_eq_getElem?_getD, List.getElem?_eq_getElem hlt]; rfl
   have hys : SizeOf.sizeOf y ≤ N := by have := size_at l i hlt; rw [hy]; exact Nat.le_trans (Nat.le_of_lt this) HLS.out
   have hst := adL_step l i hlt m1
   rw [show (⟨0, 0, 0, ⟨#[]⟩, []⟩ : S31) = z31 from rfl, ← hy] at hst
   obtain ⟨m2, hm2⟩ : ∃ q : List (S31 × List Int), ad y m1 = q := ⟨_, rfl⟩
   rw [hm2] at hst
   obtain ⟨k2, hk2⟩ : ∃ q : List Int, q = k1 ++ [(m1.length : Int)] := ⟨_, rfl⟩
   have hs2 := HS.out
   rw [hst] at hs2
   dsimp only at hs2
   have HS2 := Aside0.mk (show kf = k2 ++ (adL (l.drop (i + 1)) m2).2 ∧ nf = (adL (l.drop (i + 1)) m2).1 ∧ m2.length ≤ nf.length from ⟨by rw [hk2, hs2.1]; simp, hs2.2.1, by rw [hs2.2.1]; exact ((ad_good _).2 _ (Nat.le_refl _) m2).1⟩)
   have hb1 : m1.length + cnt y < 1099511627776 := by have h1 := (ad_len _).1 y (Nat.le_refl _) m1; rw [hm2] at h1; have h2 := HS2.out.2.2; have h3 := HNF.out; have h4 := HL0.out; have h5 := HLN.out; omega
   obtain ⟨ad0, A5, c5, ea, ha0, ha1, ha2, ha3, ha4, hl5, hC5⟩ := at_F31 HV.out i hlt y hyi
   cases ea
   have IY := (fun (ws' : World) (PN' : Nat → Prop) (BN' : Option Addr) (DN' : Nat) h => IH.out y hys ws' PN' BN' DN' m1 A5 c5 hC5 hl5 hb1 h)
   rw [hm2] at IY
   replace IY := Aside0.mk IY
   have Nk2 := Aside0.mk hk2
   have HKL2 := Aside0.mk (show k2.length = i + 1 by rw [hk2]; simp; exact HKL.out)
   replace ha0 := (HB.out.cell (World.block_lt_of_cell? w _ ha0)).trans ha0
   replace ha1 := (HB.out.cell (World.block_lt_of_cell? w _ ha1)).trans ha1
   replace ha2 := (HB.out.cell (World.block_lt_of_cell? w _ ha2)).trans ha2
   replace ha3 := (HB.out.cell (World.block_lt_of_cell? w _ ha3)).trans ha3
   replace ha4 := (HB.out.cell (World.block_lt_of_cell? w _ ha4)).trans ha4
   have hw1 : wrap64 ((i : Int) + 1) = ((i + 1 : Nat) : Int) := by have h1 := HCL.out; have h2 := HLN.out; unfold wrap64; omega
   have p3 := eq_true (show (0 : Int) ≤ (i : Int) from Int.natCast_nonneg _)
   have p4 := eq_true (show (i : Int) < (l.length : Int) from Int.ofNat_lt.2 hlt)
   have p4d := decide_eq_true (show (i : Int) < (l.length : Int) from Int.ofNat_lt.2 hlt)
   have p4n := decide_eq_true hlt
   have HILT := Aside0.mk hlt
   clear hlt hy hyi hys hst hm2 hk2 hs2 hb1 hl5 hC5
   go_wp2_with (first | ((with_reducible refine gate_dst (N := 8) rfl ?_); refine bx_ (N := 8) (cs := #[.int .i64 0, .int .i64 0, .int .i64 0, .string ByteArray.empty, .slice none 0 0]) (t := 31) rfl rfl ?hr_5 ?_; (case hr_5 => first | (go_simp; done) | (go_simp; rfl)); intro gX4 hg w2 hb hk PX4 hPX4 HX4; have GEX4 := Aside0.mk (gen_ hg HB.out); have D_G_X4 := na hPX4 HG; have D_X1_X4 := na hPX4 HX1; have D_M_X4 := Aside0.mk (new_apart HM.out.lt hPX4); have D_Q_X4 := Aside0.mk (new_apart HQ.out.lt hPX4); have RRX4 := Aside0.mk (rrn HK.out hPX4); replace HG := sn hk HG; replace HX1 := sn hk HX1; replace HM := Aside0.mk (HM.out.step hk no_S); replace HQ := Aside0.mk (HQ.out.step hk no_S); replace HK := Aside0.mk (HK.out.then_ hk no_R); replace HB := Aside0.mk (below_step HB.out hb); clear hb hk hg hPX4; replace jG := HG.out.c5; replace jX1 := HX1.out.c5; replace jX4 := HX4.out.c5) | ((with_reducible refine gate_store (t := 31) (p := 8) rfl ?_); refine LB.storedW HX4.out HB.out GEX4.out [.int .i64 y.f0, .int .i64 y.f1, .int .i64 y.f2, .string y.f3, .slice A5 y.f4.length c5] rfl rfl (t := 31) (p := 8) rfl rfl ?hr_6 ?_; (case hr_6 => first | (go_simp; done) | (go_simp; simp only [World.setCells, Nat.reduceAdd, Nat.zero_add]; done)); intro w2 hx hk hb; replace HG := ss hk HG D_G_X4.out; replace HX1 := ss hk HX1 D_X1_X4.out; replace HM := Aside0.mk (HM.out.step hk D_M_X4.out); replace HQ := Aside0.mk (HQ.out.step hk D_Q_X4.out); replace HK := Aside0.mk (HK.out.then_ hk RRX4.out); replace HB := Aside0.mk hb; replace HX4 := Aside0.mk (show LB w2 PX4 gX4 31 #[.int .i64 y.f0, .int .i64 y.f1, .int .i64 y.f2, .string y.f3, .slice A5 y.f4.length c5] from hx); clear hk hx hb; replace jG := HG.out.c5; replace jX1 := HX1.out.c5; replace jX4 := HX4.out.c5) | ((with_reducible refine gate_callee (f := 44) rfl ?_); refine gl_ (some 36) rfl rfl Try.func44 #[.pointer (some ⟨gG, 0, none⟩), .agg #[.int .i64 y.f0, .int .i64 y.f1, .int .i64 y.f2, .string y.f3, .slice A5 y.f4.length c5]] rfl rfl ?_; (with_reducible refine (IY.out _ _ _ _ ⟨HB.out, HG.out, HM.out, D_G_M.out, GEG.out, OLDM.out⟩).mono ?_); rintro e w2 ⟨BN5, DN5, PN5, rfl, ⟨hb_, hg_, hn_, hd_, hge_, hold_⟩, hrr_, hkk_⟩; refine ⟨_, rfl, ?_⟩; have D_X1_N5 := Aside0.mk (apart_app hrr_ HX1.out.lt (apart_or (apart_symm D_G_X1.out) D_X1_M.out)); have D_Q_N5 := Aside0.mk (apart_app hrr_ HQ.out.lt (apart_or (apart_symm D_G_Q.out) D_Q_M.out)); have D_X4_N5 := Aside0.mk (apart_app hrr_ HX4.out.lt (apart_or (apart_symm D_G_X4.out) (apart_symm D_M_X4.out))); replace HX1 := ss hkk_ HX1 (apart_or (apart_symm D_G_X1.out) D_X1_M.out); replace HQ := Aside0.mk (HQ.out.step hkk_ (apart_or (apart_symm D_G_Q.out) D_Q_M.out)); replace HX4 := ss hkk_ HX4 (apart_or (apart_symm D_G_X4.out) (apart_symm D_M_X4.out)); have RRN5 := Aside0.mk (rr_app hrr_ HK.out.1 (rr_or RRG.out RRM.out)); replace HK := Aside0.mk (HK.out.then_ hkk_ (rr_or RRG.out RRM.out)); replace HB := Aside0.mk hb_; replace HG := Aside0.mk hg_; have HN5 := Aside0.mk hn_; have D_G_N5 := Aside0.mk hd_; have OLDN5 := Aside0.mk hold_; clear hb_ hg_ hn_ hd_ hge_ hold_ hrr_ hkk_ HM OLDM; replace jG := HG.out.c5; replace jX1 := HX1.out.c5; replace jX4 := HX4.out.c5) | ((with_reducible refine gate_builtin (b := .append) (xs := #[.tmp 33, .tmp 37]) rfl ?_); at_builtin; refine LR.append1 (Kd.int .i64) (w0 := w) rfl (.tmp 33) (.tmp 37) 26 3 (.int .i64 0) 8 rfl Try.underlying26 info3 rfl (by decide) (by omega) (.slice BQ k1.length DQ) k1 (m1.length : Int) [.int .i64 (m1.length : Int)] rfl rfl (by simp) HQ.out rfl (fun _ _ h_ => h_) HB.out ?aL_7 ?_; (case aL_7 => have h1 := HKL.out; have h2 := HI.out; have h3 := HCL.out; have h4 := HLN.out; omega); intro PF6 v_ w2 HL hb hk hR; have D_X1_F6 := Aside0.mk (apart_app hR HX1.out.lt D_X1_Q.out); have D_X4_F6 := Aside0.mk (apart_app hR HX4.out.lt (apart_symm D_Q_X4.out)); have D_G_F6 := Aside0.mk (apart_app hR HG.out.lt D_G_Q.out); have D_N5_F6 := Aside0.mk (apart_app hR HN5.out.lt (apart_symm D_Q_N5.out)); have RRF6 := Aside0.mk (show ∀ k_, PF6 k_ → (fun k_ => PG k_ ∨ PN k_) k_ ∨ ws.heap.size ≤ k_ from rr_app hR HK.out.1 RRQ.out); replace HX1 := ss hk HX1 D_X1_Q.out; replace HX4 := ss hk HX4 (apart_symm D_Q_X4.out); replace HG := ss hk HG D_G_Q.out; replace HN5 := Aside0.mk (HN5.out.step hk (apart_symm D_Q_N5.out)); replace HK := Aside0.mk (HK.out.then_ hk RRQ.out); rw [← Nk2.out] at HL; have HF6 := Aside0.mk HL; replace HB := Aside0.mk hb; clear hR HL hb hk; clear HQ; obtain ⟨BF6, DF6, e_F6⟩ := HF6.out.val; subst e_F6; replace jG := HG.out.c5; replace jX1 := HX1.out.c5; replace jX4 := HX4.out.c5))
   go_roundg g1
   case measure => omega
   case rel => exact ⟨i + 1, m2, k2, _, _, _, _, _, _, rfl, by first | rfl | exact congrArg (Value.int .i64) hw1, ⟨by have := HI.out; omega, by have h1 := HI.out; have h2 := HILT.out; omega⟩, HKL2, HS2, HB, HG, HN5, D_G_N5, RRN5, OLDN5, HK, HX1, ⟨D_X1_N5.out⟩, HF6, ⟨D_G_F6.out⟩, ⟨(apart_symm D_N5_F6.out)⟩, ⟨D_X1_F6.out⟩, RRF6⟩
  have hi : i = l.length := by have := HI.out; omega
  have hs2 := HS.out
  rw [hi, List.drop_length, adL] at hs2
  dsimp only at hs2
  rw [List.append_nil] at hs2
  obtain ⟨e1_, e2_, _⟩ := hs2
  subst e1_ e2_
  have p4d : decide ((i : Int) < (l.length : Int)) = false := decide_eq_false (by omega)
  have p4n : decide (i < l.length) = false := decide_eq_false hlt
  obtain ⟨gN, cN, he, hge, hltN, _⟩ := Kd.N_form HM.out.1 (by have := HNF.out; have := HL0.out; omega)
  injection he with ea _ ec
  subst ea ec
  have hin : ns.length < nf.length := by have h1 := HNF.out; have h2 := HL0.out; omega
  obtain ⟨cs, hcl, _, hcc, hfr⟩ := Kd.N_elem HM.out.1 ((z31, []) : S31 × List Int) (ns.length : Int) (by omega) (by omega)
  rw [Int.toNat_natCast] at hcc hfr
  obtain ⟨u5, hu5⟩ : ∃ u_, cs[5]? = some u_ := ⟨_, List.getElem?_eq_getElem (by rw [hcl]; decide)⟩
  have hc5 := (show wr.cell? ⟨gN, ns.length * 6 + 5, none⟩ = some u5 from hcc 5 _ hu5)
  have hf5 := (show wr.frozen? ⟨gN, ns.length * 6 + 5, none⟩ = false from hfr 5)
  clear hcc hfr hu5 hcl
  obtain ⟨hs_, hg_, hp_⟩ := LM.kids HM.out ns.length hin (⟨f0, f1, f2, f3, l⟩ : S31) kf ⟨_, HAT.out⟩ HQ.out D_Q_M.out
  rw [HYF.out] at hs_
  have HS_ := Aside0.mk hs_
  have HG_ := Aside0.mk hg_
  have HP_ := Aside0.mk hp_
  have p5 := eq_true (show (0 : Int) ≤ (ns.length : Int) from Int.natCast_nonneg _)
  have p6 := eq_true (show (ns.length : Int) < (nf.length : Int) by omega)
  have p6n := eq_true hin
  have HYL := Aside0.mk (show nf.length = yf.length by rw [← HYF.out]; simp)
  have hgN : w.heap.size ≤ gN := hge
  have GEN := Aside0.mk hgN
  clear hlt hi hs_ hg_ hp_ hge hltN hin hgN
  replace jG := HG.out.c5
  replace jX1 := HX1.out.c5
  go_wp2_with (first | ((with_reducible refine gate_store (t := 26) (p := 47) rfl ?_); refine store_event (t := 26) (p := 47) (v := ?vo_s9) (w1 := World.setCells wr gN (ns.length * 6 + 5) [.slice BQ kf.length DQ]) ?hg_s9 ?ho_s9 ?hn_s9 ?hr_s9 ?_; (case ho_s9 => rfl); (case hg_s9 => rfl); (case hn_s9 => rfl); (case hr_s9 => first | (go_simp; done) | (go_simp; simp only [World.setCells, Nat.reduceAdd, Nat.zero_add]; done)); intro w13 hw_; have hs2_ := HS_.out; have hg2_ := HG_.out; rw [← hw_] at hs2_ hg2_; have hk := Kept.of_grown hg2_ (Kept.refl _ PM) (fun k_ h_ => .inl (by injection h_ with h_; rw [← h_]; exact HP_.out)); have hb := iBelow HB.out hg2_ GEN.out; replace HG := ss hk HG D_G_M.out; replace HK := Aside0.mk (HK.out.then_ hk RRM.out); have HZ := Aside0.mk hs2_; have OLDZ := Aside0.mk (show ∀ k, k < w.heap.size → (PM k ∨ PQ k) ∧ k < wr.heap.size from fun k h_ => ⟨.inl (OLDM.out k h_), Nat.lt_of_lt_of_le h_ HB.out.size⟩); replace HB := Aside0.mk hb; clear hs2_ hg2_ hk hb hw_; replace jG := HG.out.c5))
  go_ret
  rw [HYL.out] at HZ HG
  exact ⟨_, _, _, rfl, ⟨HB.out, HG.out, HZ.out, fun k h1 h2 => h2.1.elim (D_G_M.out k h1) (D_G_Q.out k h1), GEG.out, OLDZ.out⟩, fun k h => h.1.elim (RRM.out k) (RRQ.out k), HK.out⟩
end
end Go.Proofs.Ytlpabbcgichaoaa.PFnExactFind
