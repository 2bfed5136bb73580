import Derived.Test.YtlpabbcgichaoaaMatFnExactFind
import Derived.Test.YtlpabbcgichaoaaWWords
section
namespace Go.Proofs.Ytlpabbcgichaoaa.PFnExactFind
open Go.RowKit Go.Proofs.Ytlpabbcgichaoaa.Lawful Go.Proofs.YtlpabbcgichaoaaW.PrintWords Go.Proofs.YtlpabbcgichaoaaW.PrintLast Go.Proofs.YtlpabbcgichaoaaW.PrintMore
attribute [local go_sem] max2_int min2_int max_two min_two max_three min_three max_four min_four
set_option maxHeartbeats 16000000
set_option maxRecDepth 100000
set_option linter.unusedVariables false
set_option linter.unusedSimpArgs false
section
open Go.Proofs.Ytlpabbcgichaoaa.Lawful
@[reducible] def l06B (w ws : World) (PG PN : Nat → Prop) (g : Nat) (B : Option Addr) (D : Nat) (T : ByteArray) (ns : List S85) : Prop :=
 Below w.heap.size w ws ∧ LB ws PG g 82 #[.slice B ns.length D, .string T, .slice none 0 0] ∧ LR k85 85 ws w.heap.size PN (.slice B ns.length D) ns ∧ (∀ k, PG k → ¬ PN k) ∧ w.heap.size ≤ g
@[reducible] def l06BP (w ws : World) (PG PN : Nat → Prop) (g : Nat) (T : ByteArray) (ns : List S85) (v : Value) (e : Ending) (w' : World) : Prop :=
 ∃ (B : Option Addr) (D : Nat) (PN' : Nat → Prop), e = .returned v ∧ l06B w w' PG PN' g B D T ns ∧ (∀ k, PN' k → (PG k ∨ PN k) ∨ ws.heap.size ≤ k) ∧ Kept ws w' (fun k_ => PG k_ ∨ PN k_)
theorem info85 : (Try.prog.info? 85).map (fun i => (i.zero, i.size, i.bytes)) = some (some (.agg #[.int .i64 0, .int .i64 0, .string ⟨#[]⟩, .int .i64 0, .int .i64 0]), 5, 48) := by kernel_rfl
def spec_add.T1 : Bool × List (List Nat × List Nat) := (true, [([], []), ([], []), ([1], [1]), ([2], [2]), ([3], [3]), ([], []), ([5], [5]), ([4, 6], [4, 6]), ([0, 0, 1, 2, 3, 4, 5, 6, 7], [0]), ([8, 0, 1, 2, 3, 4, 5, 6, 7], [8]), ([9, 7, 7, 0, 1, 2, 3, 4, 5, 6, 7], [7, 9])])
def spec_add.B1 : List Nat := [0, 0, 2, 6, 14, 0, 32, 126, 255, 511, 1023]
theorem spec_add.tab1 : rtab .any (opsOf Try.f61 1) = spec_add.T1 := by kernel_rfl
theorem spec_add.bits1 : waitsOk spec_add.T1.2 spec_add.B1 = true := by kernel_rfl
theorem spec_add (w ws : World) (PG PN : Nat → Prop) (gG : Nat) (BN : Option Addr) (DN : Nat) (T : ByteArray) (ns : List S85) (f0 f1 : Int) (f2 : ByteArray) (f3 f4 : Int) (hl : ns.length < 1099511627776) (hAt : l06B w ws PG PN gG BN DN T ns) :
  Calls Try.prog 61 #[.pointer (some ⟨gG, 0, none⟩), .agg #[.int .i64 f0, .int .i64 f1, .string f2, .int .i64 f3, .int .i64 f4]] ws (l06BP w ws PG PN gG T (ns ++ [⟨f0, f1, f2, f3, f4⟩]) (.int .i64 (ns.length : Int))) := by
 have hu := Try.underlying82
 have hu2 := Try.underlying85
 have hu3 := Try.underlying31
 obtain ⟨hb_, hg_, hn_, hd_, hge_⟩ := hAt
 have HB := am hb_
 have HG := am hg_
 have HN := am hn_
 have D_G_N := am hd_
 have GEG := am hge_
 have HK := am (Kept.refl ws (fun k_ => PG k_ ∨ PN k_))
 have RRG := am (show ∀ k_, PG k_ → (fun k_ => PG k_ ∨ PN k_) k_ ∨ ws.heap.size ≤ k_ from fun _ h_ => .inl (.inl h_))
 have RRN := am (show ∀ k_, PN k_ → (fun k_ => PG k_ ∨ PN k_) k_ ∨ ws.heap.size ≤ k_ from fun _ h_ => .inl (.inr h_))
 clear hb_ hg_ hn_ hd_ hge_
 have HL := am hl
 have hw2 := (show wrap64 ((ns.length : Nat) : Int) = (ns.length : Int) by unfold wrap64; omega)
 obtain ⟨y1, hy1⟩ : ∃ y_ : List S85, y_ = ns ++ [⟨f0, f1, f2, f3, f4⟩] := ⟨_, rfl⟩
 have Ny1 := am hy1
 rw [← hy1]
 have hyl : y1.length = ns.length + 1 := by rw [hy1]; simp
 have hw := (show wrap64 ((y1.length : Int) - 1) = (ns.length : Int) by unfold wrap64; omega)
 clear hy1 hl hyl
 replace jG := HG.out.c3
 go_enter Try.func61, Try.ntmps61
 go_upto_region 1 with (first | ((with_reducible refine gd 3 rfl ?_); refine bx_ (N := 3) (cs := #[.int .i64 f0, .int .i64 f1, .string f2, .int .i64 f3, .int .i64 f4]) (t := 85) rfl rfl ?hr_1 ?_; (case hr_1 => first | (go_simp; done) | (go_simp; rfl)); intro gX1 hg w2 hb hk PX1 hPX1 HX1; have GEX1 := ge_ hg HB; have D_N_X1 := nl hPX1 HN.out.lt; have D_G_X1 := na hPX1 HG; have RRX1 := ra HK hPX1; replace HN := rn hk HN; replace HG := sn hk HG; replace HK := kt HK hk; replace HB := bs HB hb; clear hb hk hg hPX1; replace jG := HG.out.c3; replace jX1 := HX1.out.c5))
 refine sr (n := 11) (S := fun w' => w'.cell? ⟨gG, 0, none⟩ = some (.slice BN ns.length DN) ∧ w'.cell? ⟨gX1, 0, none⟩ = some (.int .i64 f0) ∧ w'.cell? ⟨gX1, 1, none⟩ = some (.int .i64 f1) ∧ w'.cell? ⟨gX1, 2, none⟩ = some (.string f2) ∧ w'.cell? ⟨gX1, 3, none⟩ = some (.int .i64 f3) ∧ w'.cell? ⟨gX1, 4, none⟩ = some (.int .i64 f4)) (ds := [10]) ⟨jG.1, jX1.1, jX1.2.2.1, jX1.2.2.2.2.1, jX1.2.2.2.2.2.2.1, jX1.2.2.2.2.2.2.2.2.1⟩ (fun hHeld => ?_)
 refine with_tabW spec_add.tab1 spec_add.bits1 (fun HT_ HW_ => ?_)
 generalize hwd_ : World.drew w2 = wd_ at hHeld ⊢
 have hk := kept_drew hwd_
 replace HN := rn hk HN
 replace HG := sn hk HG
 replace HX1 := sn hk HX1
 replace HK := kt HK hk
 replace HB := bd HB hwd_
 clear hk hwd_
 replace jG := HG.out.c3
 replace jX1 := HX1.out.c5
 refine pu 0 5 HT_.out rfl rfl rfl ?_
 refine pu 1 6 HT_.out rfl rfl rfl ?_
 refine pu 2 7 HT_.out rfl rfl rfl ?_
 refine pu 3 8 HT_.out rfl rfl rfl ?_
 refine tk 4 9 HT_.out HW_.out hHeld rfl rfl rfl ?_
 refine tk 5 10 HT_.out HW_.out hHeld rfl rfl rfl ?_
 refine on_ 6 (some 11) HT_.out rfl rfl fun K hK => ?_
 refine event_step (by rfl) (by first | (go_simp; exact ⟨rfl, rfl⟩) | (go_simp; done) | (go_simp; rfl)) ?_
 refine hK.out _ _ ⟨(pw_cell_below (below_alloc (Below.refl _ _) _) jG.1), (pw_cell_below (below_alloc (Below.refl _ _) _) jX1.1), (pw_cell_below (below_alloc (Below.refl _ _) _) jX1.2.2.1), (pw_cell_below (below_alloc (Below.refl _ _) _) jX1.2.2.2.2.1), (pw_cell_below (below_alloc (Below.refl _ _) _) jX1.2.2.2.2.2.2.1), (pw_cell_below (below_alloc (Below.refl _ _) _) jX1.2.2.2.2.2.2.2.2.1)⟩ (fun hHeld => ?_)
 clear hK K
 refine nm ?_
 refine on_ 7 (some 12) HT_.out rfl rfl fun K hK => ?_
 refine LR.append1_step k85 (w0 := w) (by rfl) (.tmp 9) (.tmp 11) 79 85 (.agg #[.int .i64 0, .int .i64 0, .string ByteArray.empty, .int .i64 0, .int .i64 0]) 48 rfl Try.underlying79 info85 rfl (by decide) (by omega) (.slice BN ns.length DN) ns (⟨f0, f1, f2, f3, f4⟩ : S85) [.int .i64 f0, .int .i64 f1, .string f2, .int .i64 f3, .int .i64 f4] rfl rfl (by simp) HN.out (k85_mkM _ _ _ (⟨f0, f1, f2, f3, f4⟩ : S85)) (fun _ _ h_ => h_) HB.out ?aL_2 ?_
 (case aL_2 => have := HL.out; omega)
 intro PF2 v_ w2 HL hb hk hR
 have D_G_F2 := ax hR HG.out.lt D_G_N
 have D_X1_F2 := ay hR HX1.out.lt D_N_X1
 have RRF2 := am (show ∀ k_, PF2 k_ → (fun k_ => PG k_ ∨ PN k_) k_ ∨ ws.heap.size ≤ k_ from rr_app hR HK.out.1 RRN.out)
 replace HG := ss hk HG D_G_N.out
 replace HX1 := ss hk HX1 (apart_symm D_N_X1.out)
 replace HK := kr HK hk RRN
 rw [← Ny1.out] at HL
 have HF2 := am HL
 replace HB := am hb
 clear hR HL hb hk
 clear HN
 obtain ⟨BF2, DF2, e_F2⟩ := HF2.out.val
 subst e_F2
 replace jG := HG.out.c3
 replace jX1 := HX1.out.c5
 refine hK.out _ _ ⟨jG.1, jX1.1, jX1.2.2.1, jX1.2.2.2.2.1, jX1.2.2.2.2.2.2.1, jX1.2.2.2.2.2.2.2.2.1⟩ (fun hHeld => ?_)
 clear hK K
 refine nm ?_
 refine pu 8 13 HT_.out rfl rfl rfl ?_
 refine pu 9 14 HT_.out rfl rfl rfl ?_
 refine la_ 10 none HT_.out rfl rfl fun K hK => ?_
 refine LB.stored_step HG.out HB.out GEG.out 0 [.slice BF2 y1.length DF2] (by rfl) rfl ?hr_3 ?_
 (case hr_3 => first | (go_simp; done) | (go_simp; simp only [World.setCells, Nat.reduceAdd, Nat.zero_add]; done))
 intro w2 hx hk hb
 replace HX1 := ss hk HX1 (apart_symm D_G_X1.out)
 replace HF2 := rs hk HF2 (apart_symm D_G_F2.out)
 replace HK := kr HK hk RRG
 replace HB := am hb
 replace HG := am (show LB w2 PG gG 82 #[.slice BF2 y1.length DF2, .string T, .slice none 0 0] from hx)
 clear hk hx hb
 replace jG := HG.out.c3
 replace jX1 := HX1.out.c5
 refine hK.out _ _ ?_
 clear hK K
 refine dn HT_ ?_
 go_wp2
 go_ret
 exact ⟨_, _, _, rfl, ⟨HB.out, HG.out, HF2.out, D_G_F2.out, GEG.out⟩, RRF2.out, HK.out⟩
theorem spec_both (w ws : World) (PG PN : Nat → Prop) (gG : Nat) (BN : Option Addr) (DN : Nat) (T : ByteArray) (ns : List S85) (a b : Int) (hl : ns.length < 1099511627776) (hAt : l06B w ws PG PN gG BN DN T ns) :
  Calls Try.prog 62 #[.pointer (some ⟨gG, 0, none⟩), .int .i64 a, .int .i64 b] ws (l06BP w ws PG PN gG T (ns ++ [⟨7, 0, ⟨#[]⟩, a, b⟩]) (.int .i64 (ns.length : Int))) := by
 have hu := Try.underlying82
 have hu2 := Try.underlying85
 have hu3 := Try.underlying31
 obtain ⟨hb_, hg_, hn_, hd_, hge_⟩ := hAt
 have HB := am hb_
 have HG := am hg_
 have HN := am hn_
 have D_G_N := am hd_
 have GEG := am hge_
 have HK := am (Kept.refl ws (fun k_ => PG k_ ∨ PN k_))
 have RRG := am (show ∀ k_, PG k_ → (fun k_ => PG k_ ∨ PN k_) k_ ∨ ws.heap.size ≤ k_ from fun _ h_ => .inl (.inl h_))
 have RRN := am (show ∀ k_, PN k_ → (fun k_ => PG k_ ∨ PN k_) k_ ∨ ws.heap.size ≤ k_ from fun _ h_ => .inl (.inr h_))
 clear hb_ hg_ hn_ hd_ hge_
 have HL := am hl
 clear hl
 obtain ⟨y1, hy1⟩ : ∃ y_ : List S85, y_ = ns ++ [⟨7, 0, ⟨#[]⟩, a, b⟩] := ⟨_, rfl⟩
 have LA := am (fun (ws' : World) (PN' : Nat → Prop) (BN' : Option Addr) (DN' : Nat) h => hy1 ▸ spec_add w ws' PG PN' gG BN' DN' T ns 7 0 ⟨#[]⟩ a b HL.out h)
 rw [← hy1]
 clear hy1
 replace jG := HG.out.c3
 go_enter Try.func62, Try.ntmps62
 go_wp2_with (first | ((with_reducible refine gc 61 rfl ?_); refine gl_ (some 11) rfl rfl Try.func61 #[.pointer (some ⟨gG, 0, none⟩), .agg #[.int .i64 7, .int .i64 0, .string ⟨#[]⟩, .int .i64 a, .int .i64 b]] rfl rfl ?_; (with_reducible refine (LA.out _ _ _ _ ⟨HB.out, HG.out, HN.out, D_G_N.out, GEG.out⟩).mono ?_); rintro e w2 ⟨BN3, DN3, PN3, rfl, ⟨hb_, hg_, hn_, hd_, hge_⟩, hrr_, hkk_⟩; refine ⟨_, rfl, ?_⟩; have RRN3 := am (rr_app hrr_ HK.out.1 (rr_or RRG.out RRN.out)); replace HK := am (HK.out.then_ hkk_ (rr_or RRG.out RRN.out)); replace HB := am hb_; replace HG := am hg_; have HN3 := am hn_; have D_G_N3 := am hd_; clear hb_ hg_ hn_ hd_ hge_ hrr_ hkk_ HN; replace jG := HG.out.c3))
 go_ret
 exact ⟨_, _, _, rfl, ⟨HB.out, HG.out, HN3.out, D_G_N3.out, GEG.out⟩, RRN3.out, HK.out⟩
end
section
open Go.Proofs.Ytlpabbcgichaoaa.Lawful
def spec_make.T3 : Bool × List (List Nat × List Nat) := (true, [([], []), ([], []), ([1], [1]), ([], []), ([], []), ([4], [4]), ([5], [5]), ([6], [6]), ([3, 7], [3, 7]), ([2, 8], [2, 8]), ([0, 9, 8], [0, 9]), ([10, 10, 0, 1, 2, 3, 4, 5, 6, 7, 8, 9, 10], [10])])
def spec_make.B3 : List Nat := [0, 0, 2, 0, 0, 16, 48, 112, 248, 510, 1023, 2047]
theorem spec_make.tab3 : rtab .any (opsOf Try.f48 3) = spec_make.T3 := by kernel_rfl
theorem spec_make.bits3 : waitsOk spec_make.T3.2 spec_make.B3 = true := by kernel_rfl
def spec_make.T12 : Bool × List (List Nat × List Nat) := (true, [([], []), ([], []), ([1], [1]), ([], []), ([], []), ([4], [4]), ([], []), ([5, 6], [5, 6]), ([7], [7]), ([3, 8], [3, 8]), ([], []), ([2, 9, 10], [2, 9, 10]), ([0, 11, 9], [0, 11]), ([12, 12, 0, 1, 2, 3, 4, 5, 6, 7, 8, 9, 10, 11, 12], [10, 12])])
def spec_make.B12 : List Nat := [0, 0, 2, 0, 0, 16, 0, 112, 240, 504, 0, 2046, 4095, 8191]
theorem spec_make.tab12 : rtab .any (opsOf Try.f48 12) = spec_make.T12 := by kernel_rfl
theorem spec_make.bits12 : waitsOk spec_make.T12.2 spec_make.B12 = true := by kernel_rfl
theorem spec_make (w : World) (PG : Nat → Prop) (gG : Nat) (T : ByteArray) : ∀ (N : Nat) (x : S31), SizeOf.sizeOf x ≤ N → rxW x → ∀ (ws : World) (PN : Nat → Prop) (BN : Option Addr) (DN : Nat) (ns : List S85) (A4 : Option Addr) (c4 : Nat), Kd.C k31 w A4 x.f4.length x.f4 → x.f4.length ≤ c4 → ns.length + 45 * cnt x < 1099511627776 → l06B w ws PG PN gG BN DN T ns →
  Calls Try.prog 48 #[.pointer (some ⟨gG, 0, none⟩), .agg #[.int .i64 x.f0, .int .i64 x.f1, .int .i64 x.f2, .string x.f3, .slice A4 x.f4.length c4]] ws (l06BP w ws PG PN gG T (mk x ns).1 (.int .i64 ((mk x ns).2 : Int))) := by
 intro N
 induction N with
 | zero => intro x hx; cases x; simp at hx
 | succ N ih =>
 rintro ⟨f0, f1, f2, f3, l⟩ hx hw ws PN BN DN ns A4 c4 hr hc hl hAt
 dsimp only at hr hc hl ⊢
 have hls : SizeOf.sizeOf l ≤ N := by simp at hx; omega
 rw [rxW] at hw
 obtain ⟨k1, k2, w1, w2, w3, w4, w5⟩ := hw
 rw [cnt] at hl
 have IH := am ih
 clear ih hx
 have hu := Try.underlying82
 have hu2 := Try.underlying85
 have hu3 := Try.underlying31
 obtain ⟨hb_, hg_, hn_, hd_, hge_⟩ := hAt
 have HB := am hb_
 have HG := am hg_
 have HN := am hn_
 have D_G_N := am hd_
 have GEG := am hge_
 have HK := am (Kept.refl ws (fun k_ => PG k_ ∨ PN k_))
 have RRG := am (show ∀ k_, PG k_ → (fun k_ => PG k_ ∨ PN k_) k_ ∨ ws.heap.size ≤ k_ from fun _ h_ => .inl (.inl h_))
 have RRN := am (show ∀ k_, PN k_ → (fun k_ => PG k_ ∨ PN k_) k_ ∨ ws.heap.size ≤ k_ from fun _ h_ => .inl (.inr h_))
 clear hb_ hg_ hn_ hd_ hge_
 have HR4 := am hr
 have HC4 := am hc
 have HLN := am hl
 replace jG := HG.out.c3
 by_cases hk6 : f0 = 6
 ·
  have hk := hk6
  have k6_ : (f0 == 6) = true := beq_iff_eq.mpr hk
  obtain ⟨y, hly⟩ := List.length_eq_one_iff.1 (w1 (.inl hk6))
  have hy : SizeOf.sizeOf y ≤ N := by rw [hly] at hls; simp at hls; omega
  have hwy : rxW y := by rw [hly, rxWL] at w5; exact w5.1
  rw [hly, cntL, cntL] at hl
  have hl1 : l.length = 1 := by rw [hly]; rfl
  obtain ⟨⟨m1, r1⟩, hq⟩ : ∃ q : List S85 × Nat, mk y ns = q := ⟨_, rfl⟩
  have hml := (mk_len _).1 y (Nat.le_refl _) hwy ns
  rw [hq] at hml
  dsimp only at hml
  obtain ⟨ad, A5, c5, ea, ha0, ha1, ha2, ha3, ha4, hl5, hC5⟩ := at_T31 HR4.out (0 : Int) (by decide) (by omega)
  cases ea
  have e0 : rd_T31 l 0 = y := by rw [hly]; rfl
  simp only [e0, Int.toNat_zero, Nat.zero_mul] at ha0 ha1 ha2 ha3 ha4 hl5 hC5
  rw [show ad.add 0 = ad from rfl] at ha0 ha1 ha2 ha3 ha4
  have p0 := eq_true (show (0 : Int) < (l.length : Int) by omega)
  have p1 := eq_true (show 0 < l.length by omega)
  obtain ⟨y2, hy2⟩ : ∃ q : List S85, m1 ++ [⟨6, f1, ⟨#[]⟩, (r1 : Int), 0⟩] = q := ⟨_, rfl⟩
  have em : mk ⟨f0, f1, f2, f3, l⟩ ns = (y2, m1.length) := by rw [hly, mk]; simp only [if_pos hk6]; rw [mkHd, hq]; rw [← hy2]
  rw [em]
  dsimp only
  have IY := (fun (ws' : World) (PN' : Nat → Prop) (BN' : Option Addr) (DN' : Nat) h => IH.out y hy hwy ws' PN' BN' DN' ns A5 c5 hC5 hl5 (by omega) h)
  rw [hq] at IY
  try dsimp only at IY
  replace IY := am IY
  have LA := (fun (ws' : World) (PN' : Nat → Prop) (BN' : Option Addr) (DN' : Nat) h => spec_add w ws' PG PN' gG BN' DN' T m1 6 f1 ⟨#[]⟩ (r1 : Int) 0 (by omega) h)
  rw [hy2] at LA
  try dsimp only at LA
  replace LA := am LA
  have HA0 := am ha0
  have HA1 := am ha1
  have HA2 := am ha2
  have HA3 := am ha3
  have HA4 := am ha4
  clear ha0 ha1 ha2 ha3 ha4 hl5 hC5 hy2 hq hml em e0 hy hwy hk hk6 hly hl1
  clear hr hc hl hls k1 k2 w1 w2 w3 w4 w5
  go_enter Try.func48, Try.ntmps48
  go_upto_region 3 with (first | ((with_reducible refine gd 3 rfl ?_); refine bx_ (N := 3) (cs := #[.int .i64 f0, .int .i64 f1, .int .i64 f2, .string f3, .slice (some ad) l.length c4]) (t := 31) rfl rfl ?hr_1 ?_; (case hr_1 => first | (go_simp; done) | (go_simp; rfl)); intro gX1 hg w2 hb hk PX1 hPX1 HX1; have GEX1 := ge_ hg HB; have D_N_X1 := nl hPX1 HN.out.lt; have D_G_X1 := na hPX1 HG; have RRX1 := ra HK hPX1; replace HN := rn hk HN; replace HG := sn hk HG; replace HK := kt HK hk; replace HB := bs HB hb; clear hb hk hg hPX1; replace jG := HG.out.c3; replace jX1 := HX1.out.c5))
  refine sr (n := 12) (S := fun w' => w'.cell? ⟨gX1, 1, none⟩ = some (.int .i64 f1) ∧ w'.cell? ⟨gX1, 4, none⟩ = some (.slice (some ad) l.length c4) ∧ w'.cell? (ad) = some (.int .i64 y.f0) ∧ w'.cell? (⟨ad.block, ad.off + 1, none⟩) = some (.int .i64 y.f1) ∧ w'.cell? (⟨ad.block, ad.off + 2, none⟩) = some (.int .i64 y.f2) ∧ w'.cell? (⟨ad.block, ad.off + 3, none⟩) = some (.string y.f3) ∧ w'.cell? (⟨ad.block, ad.off + 4, none⟩) = some (.slice A5 y.f4.length c5)) (ds := []) ⟨jX1.2.2.1, jX1.2.2.2.2.2.2.2.2.1, ((HB.out.cell (World.block_lt_of_cell? w _ HA0.out)).trans HA0.out), ((HB.out.cell (World.block_lt_of_cell? w _ HA1.out)).trans HA1.out), ((HB.out.cell (World.block_lt_of_cell? w _ HA2.out)).trans HA2.out), ((HB.out.cell (World.block_lt_of_cell? w _ HA3.out)).trans HA3.out), ((HB.out.cell (World.block_lt_of_cell? w _ HA4.out)).trans HA4.out)⟩ (fun hHeld => ?_)
  refine with_tabW spec_make.tab3 spec_make.bits3 (fun HT_ HW_ => ?_)
  generalize hwd_ : World.drew w2 = wd_ at hHeld ⊢
  have hk := kept_drew hwd_
  replace HN := rn hk HN
  replace HG := sn hk HG
  replace HX1 := sn hk HX1
  replace HK := kt HK hk
  replace HB := bd HB hwd_
  clear hk hwd_
  replace jG := HG.out.c3
  replace jX1 := HX1.out.c5
  refine pu 0 15 HT_.out rfl rfl rfl ?_
  refine pu 1 16 HT_.out rfl rfl rfl ?_
  refine tk 2 17 HT_.out HW_.out hHeld rfl rfl rfl ?_
  refine pu 3 18 HT_.out rfl rfl rfl ?_
  refine pu 4 19 HT_.out rfl rfl rfl ?_
  refine tk 5 20 HT_.out HW_.out hHeld rfl rfl rfl ?_
  refine pu 6 21 HT_.out rfl rfl rfl ?_
  refine tk 7 22 HT_.out HW_.out hHeld rfl rfl rfl ?_
  refine on_ 8 (some 23) HT_.out rfl rfl fun K hK => ?_
  refine gs_ Try.func48 #[.pointer (some ⟨gG, 0, none⟩), .agg #[.int .i64 y.f0, .int .i64 y.f1, .int .i64 y.f2, .string y.f3, .slice A5 y.f4.length c5]] rfl rfl rfl rfl ?_
  (with_reducible refine (IY.out _ _ _ _ ⟨HB.out, HG.out, HN.out, D_G_N.out, GEG.out⟩).mono ?_)
  rintro e w2 ⟨BN2, DN2, PN2, rfl, ⟨hb_, hg_, hn_, hd_, hge_⟩, hrr_, hkk_⟩
  refine ⟨_, rfl, ?_⟩
  have D_X1_N2 := am (apart_app hrr_ HX1.out.lt (apart_or (apart_symm D_G_X1.out) (apart_symm D_N_X1.out)))
  replace HX1 := ss hkk_ HX1 (apart_or (apart_symm D_G_X1.out) (apart_symm D_N_X1.out))
  have RRN2 := am (rr_app hrr_ HK.out.1 (rr_or RRG.out RRN.out))
  replace HK := am (HK.out.then_ hkk_ (rr_or RRG.out RRN.out))
  replace HB := am hb_
  replace HG := am hg_
  have HN2 := am hn_
  have D_G_N2 := am hd_
  clear hb_ hg_ hn_ hd_ hge_ hrr_ hkk_ HN
  replace jG := HG.out.c3
  replace jX1 := HX1.out.c5
  refine hK.out _ _ ⟨jX1.2.2.1, jX1.2.2.2.2.2.2.2.2.1, ((HB.out.cell (World.block_lt_of_cell? w _ HA0.out)).trans HA0.out), ((HB.out.cell (World.block_lt_of_cell? w _ HA1.out)).trans HA1.out), ((HB.out.cell (World.block_lt_of_cell? w _ HA2.out)).trans HA2.out), ((HB.out.cell (World.block_lt_of_cell? w _ HA3.out)).trans HA3.out), ((HB.out.cell (World.block_lt_of_cell? w _ HA4.out)).trans HA4.out)⟩ (fun hHeld => ?_)
  clear hK K
  refine nm ?_
  refine pu 9 24 HT_.out rfl rfl rfl ?_
  refine on_ 10 (some 25) HT_.out rfl rfl fun K hK => ?_
  refine gs_ Try.func61 #[.pointer (some ⟨gG, 0, none⟩), .agg #[.int .i64 6, .int .i64 f1, .string ⟨#[]⟩, .int .i64 (r1 : Int), .int .i64 0]] rfl rfl rfl rfl ?_
  (with_reducible refine (LA.out _ _ _ _ ⟨HB.out, HG.out, HN2.out, D_G_N2.out, GEG.out⟩).mono ?_)
  rintro e w2 ⟨BN3, DN3, PN3, rfl, ⟨hb_, hg_, hn_, hd_, hge_⟩, hrr_, hkk_⟩
  refine ⟨_, rfl, ?_⟩
  have D_X1_N3 := am (apart_app hrr_ HX1.out.lt (apart_or (apart_symm D_G_X1.out) D_X1_N2.out))
  replace HX1 := ss hkk_ HX1 (apart_or (apart_symm D_G_X1.out) D_X1_N2.out)
  have RRN3 := am (rr_app hrr_ HK.out.1 (rr_or RRG.out RRN2.out))
  replace HK := am (HK.out.then_ hkk_ (rr_or RRG.out RRN2.out))
  replace HB := am hb_
  replace HG := am hg_
  have HN3 := am hn_
  have D_G_N3 := am hd_
  clear hb_ hg_ hn_ hd_ hge_ hrr_ hkk_ HN2
  replace jG := HG.out.c3
  replace jX1 := HX1.out.c5
  refine hK.out _ _ ⟨jX1.2.2.1, jX1.2.2.2.2.2.2.2.2.1, ((HB.out.cell (World.block_lt_of_cell? w _ HA0.out)).trans HA0.out), ((HB.out.cell (World.block_lt_of_cell? w _ HA1.out)).trans HA1.out), ((HB.out.cell (World.block_lt_of_cell? w _ HA2.out)).trans HA2.out), ((HB.out.cell (World.block_lt_of_cell? w _ HA3.out)).trans HA3.out), ((HB.out.cell (World.block_lt_of_cell? w _ HA4.out)).trans HA4.out)⟩ (fun hHeld => ?_)
  clear hK K
  refine nm ?_
  refine pu 11 4 HT_.out rfl rfl rfl ?_
  refine dn HT_ ?_
  go_wp2
  go_ret
  exact ⟨_, _, _, rfl, ⟨HB.out, HG.out, HN3.out, D_G_N3.out, GEG.out⟩, RRN3.out, HK.out⟩
 by_cases hk78 : f0 = 7 ∨ f0 = 8
 ·
  by_cases ce : l.isEmpty = true
  ·
   have hl0 : l = [] := List.isEmpty_iff.1 ce
   have hk : f0 = 7 := by rcases hk78 with h | h; exact h; have := w3 h; rw [hl0] at this; simp at this
   have k6_ : (f0 == 6) = false := bo
   have k7_ : (f0 == 7) = true := beq_iff_eq.mpr hk
   obtain ⟨y2, hy2⟩ : ∃ q : List S85, ns ++ [nd0] = q := ⟨_, rfl⟩
   have em : mk ⟨f0, f1, f2, f3, l⟩ ns = (y2, ns.length) := by rw [mk]; simp only [if_neg hk6, if_pos hk78, if_pos ce]; rw [hy2]
   rw [em]
   dsimp only
   have e0 : ((l.length : Int) == 0) = true := by rw [hl0]; rfl
   have e1 : (l.length == 0) = true := by rw [hl0]; rfl
   have LA := (fun (ws' : World) (PN' : Nat → Prop) (BN' : Option Addr) (DN' : Nat) h => spec_add w ws' PG PN' gG BN' DN' T ns 21 0 ⟨#[]⟩ 0 0 (by omega) h)
   rw [show ns ++ [⟨21, 0, ⟨#[]⟩, 0, 0⟩] = y2 from hy2] at LA
   try dsimp only at LA
   replace LA := am LA
   clear hl0 ce hk78 hk6 hk em hy2
   clear hr hc hl hls k1 k2 w1 w2 w3 w4 w5
   go_enter Try.func48, Try.ntmps48
   go_wp2_with (first | ((with_reducible refine gd 3 rfl ?_); refine bx_ (N := 3) (cs := #[.int .i64 f0, .int .i64 f1, .int .i64 f2, .string f3, .slice A4 l.length c4]) (t := 31) rfl rfl ?hr_2 ?_; (case hr_2 => first | (go_simp; done) | (go_simp; rfl)); intro gX4 hg w2 hb hk PX4 hPX4 HX4; have GEX4 := ge_ hg HB; have D_N_X4 := nl hPX4 HN.out.lt; have D_G_X4 := na hPX4 HG; have RRX4 := ra HK hPX4; replace HN := rn hk HN; replace HG := sn hk HG; replace HK := kt HK hk; replace HB := bs HB hb; clear hb hk hg hPX4; replace jG := HG.out.c3; replace jX4 := HX4.out.c5) | ((with_reducible refine gc 61 rfl ?_); refine gl_ (some 35) rfl rfl Try.func61 #[.pointer (some ⟨gG, 0, none⟩), .agg #[.int .i64 21, .int .i64 0, .string ⟨#[]⟩, .int .i64 0, .int .i64 0]] rfl rfl ?_; (with_reducible refine (LA.out _ _ _ _ ⟨HB.out, HG.out, HN.out, D_G_N.out, GEG.out⟩).mono ?_); rintro e w2 ⟨BN5, DN5, PN5, rfl, ⟨hb_, hg_, hn_, hd_, hge_⟩, hrr_, hkk_⟩; refine ⟨_, rfl, ?_⟩; have D_X4_N5 := am (apart_app hrr_ HX4.out.lt (apart_or (apart_symm D_G_X4.out) (apart_symm D_N_X4.out))); replace HX4 := ss hkk_ HX4 (apart_or (apart_symm D_G_X4.out) (apart_symm D_N_X4.out)); have RRN5 := am (rr_app hrr_ HK.out.1 (rr_or RRG.out RRN.out)); replace HK := am (HK.out.then_ hkk_ (rr_or RRG.out RRN.out)); replace HB := am hb_; replace HG := am hg_; have HN5 := am hn_; have D_G_N5 := am hd_; clear hb_ hg_ hn_ hd_ hge_ hrr_ hkk_ HN; replace jG := HG.out.c3; replace jX4 := HX4.out.c5))
   go_ret
   exact ⟨_, _, _, rfl, ⟨HB.out, HG.out, HN5.out, D_G_N5.out, GEG.out⟩, RRN5.out, HK.out⟩
  have hne : l ≠ [] := fun h => ce (by rw [h]; rfl)
  obtain ⟨t0, ht0⟩ : ∃ t : Nat, t + 1 = l.length := ⟨l.length - 1, by have := List.length_pos_iff.2 hne; omega⟩
  have HLT := am (show l.length < 1099511627776 from by have h1 := mkL_len f0 l 0 (by omega) w5 ns; have : l.length ≤ cntL l := cntL_ge l; omega)
  obtain ⟨⟨mf, rf⟩, hqf⟩ : ∃ q : List S85 × Nat, mkL f0 l ns = q := ⟨_, rfl⟩
  have em : mk ⟨f0, f1, f2, f3, l⟩ ns = (mf, rf) := by rw [mk]; simp only [if_neg hk6, if_pos hk78]; rw [if_neg ce, hqf]
  rw [em]
  dsimp only
  obtain ⟨y, hy⟩ : ∃ y_, y_ = l.getD t0 z31 := ⟨_, rfl⟩
  obtain ⟨⟨m0, r0⟩, hq0⟩ : ∃ q : List S85 × Nat, mk y ns = q := ⟨_, rfl⟩
  have hqd : mkL f0 (l.drop t0) ns = (m0, r0) := by rw [mkL_last f0 l ns t0 ht0, ← hq0, hy]; rfl
  obtain ⟨ad, A5, c5, ea, ha0, ha1, ha2, ha3, ha4, hl5, hC5⟩ := at_T31 HR4.out (t0 : Int) (by omega) (by omega)
  cases ea
  have e0 : rd_T31 l (t0 : Int) = y := by rw [hy]; unfold rd_T31; rw [Int.toNat_natCast]
  simp only [e0, Int.toNat_natCast] at ha0 ha1 ha2 ha3 ha4 hl5 hC5
  have hys : SizeOf.sizeOf y ≤ N := by have := size_at l t0 (by omega); rw [hy]; exact Nat.le_trans (Nat.le_of_lt this) hls
  have hwy : rxW y := by rw [hy]; exact rxWL_at l t0 w5 (by omega)
  have hcy : cnt y ≤ cntL l := by have h1 := cntL_at l t0 (by omega); have h2 := cntL_le l t0; rw [hy]; unfold z31; omega
  have IY := (fun (ws' : World) (PN' : Nat → Prop) (BN' : Option Addr) (DN' : Nat) h => IH.out y hys hwy ws' PN' BN' DN' ns A5 c5 hC5 hl5 (by omega) h)
  rw [hq0] at IY
  try dsimp only at IY
  replace IY := am IY
  have HLL := am ht0
  have HWL := am w5
  have HSL := am hls
  have HQD := am hqd
  have HQF := am hqf
  have HA0 := am ha0
  have HA1 := am ha1
  have HA2 := am ha2
  have HA3 := am ha3
  have HA4 := am ha4
  clear ha0 ha1 ha2 ha3 ha4
  have w1_ : wrap64 ((l.length : Int) - 1) = (t0 : Int) := wrap_nat (by omega) (by have := HLT.out; omega)
  have w1k : IntKind.i64.wrap ((l.length : Int) - 1) = (t0 : Int) := (i64_w _).trans w1_
  have w2_ : wrap64 ((l.length : Int) - 2) = (t0 : Int) - 1 := by have := HLT.out; unfold wrap64; omega
  have w2k : IntKind.i64.wrap ((l.length : Int) - 2) = (t0 : Int) - 1 := (i64_w _).trans w2_
  have p1 := zn t0
  have p2 := eq_true (show (t0 : Int) < (l.length : Int) by omega)
  have e1 : ((l.length : Int) == 0) = false := bo
  have e2 : (l.length == 0) = false := bo
  have k6_ : (f0 == 6) = false := beq_eq_false_iff_ne.mpr hk6
  have HK78 := am hk78
  clear hne ce hk78 hk6 em e0 hy hys hwy hcy hq0 hqd hqf hl5 hC5 ht0
  clear hr hc hl hls k1 k2 w1 w2 w3 w4 w5
  go_enter Try.func48, Try.ntmps48
  go_upto_if 26 with (first | ((with_reducible refine gd 3 rfl ?_); refine bx_ (N := 3) (cs := #[.int .i64 f0, .int .i64 f1, .int .i64 f2, .string f3, .slice (some ad) l.length c4]) (t := 31) rfl rfl ?hr_3 ?_; (case hr_3 => first | (go_simp; done) | (go_simp; rfl)); intro gX6 hg w2 hb hk PX6 hPX6 HX6; have GEX6 := ge_ hg HB; have D_N_X6 := nl hPX6 HN.out.lt; have D_G_X6 := na hPX6 HG; have RRX6 := ra HK hPX6; replace HN := rn hk HN; replace HG := sn hk HG; replace HK := kt HK hk; replace HB := bs HB hb; clear hb hk hg hPX6; replace jG := HG.out.c3; replace jX6 := HX6.out.c5; (try clear ha0 ha1 ha2 ha3 ha4); have ha0 := ((HB.out.cell (World.block_lt_of_cell? w _ HA0.out)).trans HA0.out); have ha1 := ((HB.out.cell (World.block_lt_of_cell? w _ HA1.out)).trans HA1.out); have ha2 := ((HB.out.cell (World.block_lt_of_cell? w _ HA2.out)).trans HA2.out); have ha3 := ((HB.out.cell (World.block_lt_of_cell? w _ HA3.out)).trans HA3.out); have ha4 := ((HB.out.cell (World.block_lt_of_cell? w _ HA4.out)).trans HA4.out)))
  go_cut [26] from 26 to 29 (fun v26 w' => v26 = .bool true ∧ w' = w2)
  case first =>
   rcases HK78.out with hk | hk
   ·
    have k7_ : (f0 == 7) = true := beq_iff_eq.mpr hk
    clear hk
    go_wp2
    go_meet
    case rel => exact ⟨rfl, rfl⟩
   have k7_ : (f0 == 7) = false := bo
   have k8_ : (f0 == 8) = true := beq_iff_eq.mpr hk
   clear hk
   go_wp2
   go_meet
   case rel => exact ⟨rfl, rfl⟩
  case rest =>
   obtain ⟨rfl, h_⟩ := hcut
   subst h_
   go_wp2_with (first | ((with_reducible refine gc 48 rfl ?_); refine gl_ (some 45) rfl rfl Try.func48 #[.pointer (some ⟨gG, 0, none⟩), .agg #[.int .i64 y.f0, .int .i64 y.f1, .int .i64 y.f2, .string y.f3, .slice A5 y.f4.length c5]] rfl rfl ?_; (with_reducible refine (IY.out _ _ _ _ ⟨HB.out, HG.out, HN.out, D_G_N.out, GEG.out⟩).mono ?_); rintro e w2 ⟨BN7, DN7, PN7, rfl, ⟨hb_, hg_, hn_, hd_, hge_⟩, hrr_, hkk_⟩; refine ⟨_, rfl, ?_⟩; have D_X6_N7 := am (apart_app hrr_ HX6.out.lt (apart_or (apart_symm D_G_X6.out) (apart_symm D_N_X6.out))); replace HX6 := ss hkk_ HX6 (apart_or (apart_symm D_G_X6.out) (apart_symm D_N_X6.out)); have RRN7 := am (rr_app hrr_ HK.out.1 (rr_or RRG.out RRN.out)); replace HK := am (HK.out.then_ hkk_ (rr_or RRG.out RRN.out)); replace HB := am hb_; replace HG := am hg_; have HN7 := am hn_; have D_G_N7 := am hd_; clear hb_ hg_ hn_ hd_ hge_ hrr_ hkk_ HN; replace jG := HG.out.c3; replace jX6 := HX6.out.c5))
   try clear ha0 ha1 ha2 ha3 ha4
   clear HA0 HA1 HA2 HA3 HA4
   go_loopg [5, 6] (t0 + 1) (fun kq v5 v6 w' => ∃ (t : Nat) (z : Int) (m1 : List S85) (r1 : Nat) (B1 : Option Addr) (D1 : Nat) (P1 : Nat → Prop), v5 = .int .i64 (r1 : Int) ∧ v6 = .int .i64 z ∧ Aside0 (z = (t : Int) - 1) ∧ Aside0 (t + 1 = kq ∧ t < l.length) ∧ Aside0 (mkL f0 (l.drop t) ns = (m1, r1)) ∧ Aside0 (Below w.heap.size w w') ∧ Aside0 (LB w' PG gG 82 #[.slice B1 m1.length D1, .string T, .slice none 0 0]) ∧ Aside0 (LR k85 85 w' w.heap.size P1 (.slice B1 m1.length D1) m1) ∧ Aside0 (∀ k, PG k → ¬ P1 k) ∧ Aside0 (∀ k_, P1 k_ → (PG k_ ∨ PN k_) ∨ ws.heap.size ≤ k_) ∧ Aside0 (Kept ws w' (fun k_ => PG k_ ∨ PN k_)) ∧ Aside0 (LB w' PX6 gX6 31 #[.int .i64 f0, .int .i64 f1, .int .i64 f2, .string f3, .slice (some ad) l.length c4]) ∧ Aside0 (∀ k, PX6 k → ¬ P1 k))
   case atStart => exact ⟨t0, _, _, _, _, _, _, rfl, rfl, ⟨rfl⟩, ⟨rfl, by have := HLL.out; omega⟩, HQD, HB, HG, HN7, D_G_N7, RRN7, HK, HX6, D_X6_N7⟩
   case round =>
    clear HB HG HN7 D_G_N7 RRN7 HK HX6 D_X6_N7
    try clear jG
    try clear jX6
    obtain ⟨t, z, m1, r1, BM, DM, PM, rfl, rfl, HZ, HT, HQ, HB, HG, HM, D_G_M, RRM, HK, HX6, D_X6_M⟩ := hrel
    replace jG := HG.out.c3
    replace jX6 := HX6.out.c5
    by_cases hlt : 0 < t
    ·
     obtain ⟨q, rfl⟩ : ∃ q, t = q + 1 := ⟨t - 1, by omega⟩
     obtain ⟨k1, rfl⟩ : ∃ k_, gk = k_ + 1 := ⟨gk - 1, by have := HT.out; omega⟩
     obtain rfl : z = (q : Int) := by have := HZ.out; omega
     obtain ⟨y2, hy⟩ : ∃ y_, y_ = l.getD q z31 := ⟨_, rfl⟩
     obtain ⟨⟨m2, r2⟩, hq2⟩ : ∃ q : List S85 × Nat, mk y2 m1 = q := ⟨_, rfl⟩
     obtain ⟨y3, hy3⟩ : ∃ q : List S85, m2 ++ [nd2 f0 r2 r1] = q := ⟨_, rfl⟩
     have hstep := mkL_step f0 l ns q (by have := HT.out; omega)
     rw [HQ.out] at hstep
     dsimp only at hstep
     rw [show (⟨0, 0, 0, ⟨#[]⟩, []⟩ : S31) = z31 from rfl, ← hy, hq2] at hstep
     dsimp only at hstep
     rw [hy3] at hstep
     obtain ⟨ad2, A5, c5, ea, ha0, ha1, ha2, ha3, ha4, hl5, hC5⟩ := at_T31 HR4.out (q : Int) (by omega) (by have := HT.out; omega)
     cases ea
     have e0 : rd_T31 l (q : Int) = y2 := by rw [hy]; unfold rd_T31; rw [Int.toNat_natCast]
     simp only [e0, Int.toNat_natCast] at ha0 ha1 ha2 ha3 ha4 hl5 hC5
     have hys : SizeOf.sizeOf y2 ≤ N := by have := size_at l q (by have := HT.out; omega); rw [hy]; exact Nat.le_trans (Nat.le_of_lt this) HSL.out
     have hwy : rxW y2 := by rw [hy]; exact rxWL_at l q HWL.out (by have := HT.out; omega)
     have hb1 : m1.length + 45 * cnt y2 < 1099511627776 := by have h1 := mkL_len f0 l (q + 1) HT.out.2 HWL.out ns; rw [HQ.out] at h1; have h2 := cntL_at l q (by have := HT.out; omega); have h3 := cntL_le l q; have h4 := HLN.out; rw [show (⟨0, 0, 0, ⟨#[]⟩, []⟩ : S31) = z31 from rfl, ← hy] at h2; dsimp only at h1; omega
     have hb2 : m2.length < 1099511627776 := by have h1 := (mk_len _).1 y2 (Nat.le_refl _) hwy m1; rw [hq2] at h1; dsimp only at h1; omega
     have IY2 := (fun (ws' : World) (PN' : Nat → Prop) (BN' : Option Addr) (DN' : Nat) h => IH.out y2 hys hwy ws' PN' BN' DN' m1 A5 c5 hC5 hl5 (hb1) h)
     rw [hq2] at IY2
     try dsimp only at IY2
     replace IY2 := am IY2
     have LA := (fun (ws' : World) (PN' : Nat → Prop) (BN' : Option Addr) (DN' : Nat) h => spec_add w ws' PG PN' gG BN' DN' T m2 f0 0 ⟨#[]⟩ (r2 : Int) (r1 : Int) (hb2) h)
     rw [show m2 ++ [⟨f0, 0, ⟨#[]⟩, (r2 : Int), (r1 : Int)⟩] = y3 from hy3] at LA
     try dsimp only at LA
     replace LA := am LA
     have HA0 := am ha0
     have HA1 := am ha1
     have HA2 := am ha2
     have HA3 := am ha3
     have HA4 := am ha4
     have HSTEP := am hstep
     have hw1 : wrap64 ((q : Int) - 1) = (q : Int) - 1 := by have h1 := HLT.out; have h2 := HT.out; unfold wrap64; omega
     have p3 := zn q
     have p4 := eq_true (show (q : Int) < (l.length : Int) by have := HT.out; omega)
     have p4n := eq_true (show q < l.length by have := HT.out; omega)
     have cg : decide ((0 : Int) ≤ (q : Int)) = true := decide_eq_true (Int.natCast_nonneg _)
     clear hlt hy hq2 hy3 hstep ha0 ha1 ha2 ha3 ha4 hl5 hC5 e0 hys hwy hb1 hb2
     go_upto_region 12 with (fail)
     refine sr (n := 14) (S := fun w' => w'.cell? ⟨gX6, 0, none⟩ = some (.int .i64 f0) ∧ w'.cell? ⟨gX6, 4, none⟩ = some (.slice (some ad) l.length c4) ∧ w'.cell? (ad.add (q * 5)) = some (.int .i64 y2.f0) ∧ w'.cell? (⟨(ad.add (q * 5)).block, (ad.add (q * 5)).off + 1, none⟩) = some (.int .i64 y2.f1) ∧ w'.cell? (⟨(ad.add (q * 5)).block, (ad.add (q * 5)).off + 2, none⟩) = some (.int .i64 y2.f2) ∧ w'.cell? (⟨(ad.add (q * 5)).block, (ad.add (q * 5)).off + 3, none⟩) = some (.string y2.f3) ∧ w'.cell? (⟨(ad.add (q * 5)).block, (ad.add (q * 5)).off + 4, none⟩) = some (.slice A5 y2.f4.length c5)) (ds := []) ⟨jX6.1, jX6.2.2.2.2.2.2.2.2.1, ((HB.out.cell (World.block_lt_of_cell? w _ HA0.out)).trans HA0.out), ((HB.out.cell (World.block_lt_of_cell? w _ HA1.out)).trans HA1.out), ((HB.out.cell (World.block_lt_of_cell? w _ HA2.out)).trans HA2.out), ((HB.out.cell (World.block_lt_of_cell? w _ HA3.out)).trans HA3.out), ((HB.out.cell (World.block_lt_of_cell? w _ HA4.out)).trans HA4.out)⟩ (fun hHeld => ?_)
     refine with_tabW spec_make.tab12 spec_make.bits12 (fun HT_ HW_ => ?_)
     generalize hwd_ : World.drew wr = wd_ at hHeld ⊢
     have hk := kept_drew hwd_
     replace HX6 := sn hk HX6
     replace HG := sn hk HG
     replace HM := rn hk HM
     replace HK := kt HK hk
     replace HB := bd HB hwd_
     clear hk hwd_
     replace jG := HG.out.c3
     replace jX6 := HX6.out.c5
     refine pu 0 54 HT_.out rfl rfl rfl ?_
     refine pu 1 55 HT_.out rfl rfl rfl ?_
     refine tk 2 56 HT_.out HW_.out hHeld rfl rfl rfl ?_
     refine pu 3 57 HT_.out rfl rfl rfl ?_
     refine pu 4 58 HT_.out rfl rfl rfl ?_
     refine tk 5 59 HT_.out HW_.out hHeld rfl rfl rfl ?_
     refine pu 6 60 HT_.out rfl rfl rfl ?_
     refine pu 7 61 HT_.out rfl rfl rfl ?_
     refine tk 8 62 HT_.out HW_.out hHeld rfl rfl rfl ?_
     refine pu 10 64 HT_.out rfl rfl rfl ?_
     refine on_ 9 (some 63) HT_.out rfl rfl fun K hK => ?_
     refine gs_ Try.func48 #[.pointer (some ⟨gG, 0, none⟩), .agg #[.int .i64 y2.f0, .int .i64 y2.f1, .int .i64 y2.f2, .string y2.f3, .slice A5 y2.f4.length c5]] rfl rfl rfl rfl ?_
     (with_reducible refine (IY2.out _ _ _ _ ⟨HB.out, HG.out, HM.out, D_G_M.out, GEG.out⟩).mono ?_)
     rintro e w2 ⟨BN8, DN8, PN8, rfl, ⟨hb_, hg_, hn_, hd_, hge_⟩, hrr_, hkk_⟩
     refine ⟨_, rfl, ?_⟩
     have D_X6_N8 := am (apart_app hrr_ HX6.out.lt (apart_or (apart_symm D_G_X6.out) D_X6_M.out))
     replace HX6 := ss hkk_ HX6 (apart_or (apart_symm D_G_X6.out) D_X6_M.out)
     have RRN8 := am (rr_app hrr_ HK.out.1 (rr_or RRG.out RRM.out))
     replace HK := am (HK.out.then_ hkk_ (rr_or RRG.out RRM.out))
     replace HB := am hb_
     replace HG := am hg_
     have HN8 := am hn_
     have D_G_N8 := am hd_
     clear hb_ hg_ hn_ hd_ hge_ hrr_ hkk_ HM
     replace jG := HG.out.c3
     replace jX6 := HX6.out.c5
     refine hK.out _ _ ⟨jX6.1, jX6.2.2.2.2.2.2.2.2.1, ((HB.out.cell (World.block_lt_of_cell? w _ HA0.out)).trans HA0.out), ((HB.out.cell (World.block_lt_of_cell? w _ HA1.out)).trans HA1.out), ((HB.out.cell (World.block_lt_of_cell? w _ HA2.out)).trans HA2.out), ((HB.out.cell (World.block_lt_of_cell? w _ HA3.out)).trans HA3.out), ((HB.out.cell (World.block_lt_of_cell? w _ HA4.out)).trans HA4.out)⟩ (fun hHeld => ?_)
     clear hK K
     refine nm ?_
     refine pu 11 65 HT_.out rfl rfl rfl ?_
     refine on_ 12 (some 66) HT_.out rfl rfl fun K hK => ?_
     refine gs_ Try.func61 #[.pointer (some ⟨gG, 0, none⟩), .agg #[.int .i64 f0, .int .i64 0, .string ⟨#[]⟩, .int .i64 (r2 : Int), .int .i64 (r1 : Int)]] rfl rfl rfl rfl ?_
     (with_reducible refine (LA.out _ _ _ _ ⟨HB.out, HG.out, HN8.out, D_G_N8.out, GEG.out⟩).mono ?_)
     rintro e w2 ⟨BN9, DN9, PN9, rfl, ⟨hb_, hg_, hn_, hd_, hge_⟩, hrr_, hkk_⟩
     refine ⟨_, rfl, ?_⟩
     have D_X6_N9 := am (apart_app hrr_ HX6.out.lt (apart_or (apart_symm D_G_X6.out) D_X6_N8.out))
     replace HX6 := ss hkk_ HX6 (apart_or (apart_symm D_G_X6.out) D_X6_N8.out)
     have RRN9 := am (rr_app hrr_ HK.out.1 (rr_or RRG.out RRN8.out))
     replace HK := am (HK.out.then_ hkk_ (rr_or RRG.out RRN8.out))
     replace HB := am hb_
     replace HG := am hg_
     have HN9 := am hn_
     have D_G_N9 := am hd_
     clear hb_ hg_ hn_ hd_ hge_ hrr_ hkk_ HN8
     replace jG := HG.out.c3
     replace jX6 := HX6.out.c5
     refine hK.out _ _ ⟨jX6.1, jX6.2.2.2.2.2.2.2.2.1, ((HB.out.cell (World.block_lt_of_cell? w _ HA0.out)).trans HA0.out), ((HB.out.cell (World.block_lt_of_cell? w _ HA1.out)).trans HA1.out), ((HB.out.cell (World.block_lt_of_cell? w _ HA2.out)).trans HA2.out), ((HB.out.cell (World.block_lt_of_cell? w _ HA3.out)).trans HA3.out), ((HB.out.cell (World.block_lt_of_cell? w _ HA4.out)).trans HA4.out)⟩ (fun hHeld => ?_)
     clear hK K
     refine nm ?_
     refine pu 13 5 HT_.out rfl rfl rfl ?_
     refine dn HT_ ?_
     go_wp2
     go_roundg k1
     case measure => omega
     case rel => exact ⟨q, _, _, _, _, _, _, rfl, rfl, ⟨by first | rfl | exact hw1⟩, ⟨by have := HT.out; omega, by have := HT.out; omega⟩, HSTEP, HB, HG, HN9, D_G_N9, RRN9, HK, HX6, D_X6_N9⟩
    obtain rfl : t = 0 := by omega
    obtain rfl : z = -1 := by have := HZ.out; omega
    have hfin := HQ.out
    rw [List.drop_zero, HQF.out] at hfin
    injection hfin with hf1 hf2
    subst hf1 hf2
    clear hlt
    go_wp2
    go_ret
    exact ⟨_, _, _, rfl, ⟨HB.out, HG.out, HM.out, D_G_M.out, GEG.out⟩, RRM.out, HK.out⟩
 by_cases hk9 : f0 = 9
 ·
  have hk := hk9
  have hk7 : ¬ f0 = 7 := fun h => hk78 (.inl h)
  have hk8 : ¬ f0 = 8 := fun h => hk78 (.inr h)
  have k6_ : (f0 == 6) = false := bo
  have k7_ : (f0 == 7) = false := bo
  have k8_ : (f0 == 8) = false := bo
  have k9_ : (f0 == 9) = true := beq_iff_eq.mpr hk
  obtain ⟨y, hly⟩ := List.length_eq_one_iff.1 (w1 (.inr hk9))
  have hy : SizeOf.sizeOf y ≤ N := by rw [hly] at hls; simp at hls; omega
  have hwy : rxW y := by rw [hly, rxWL] at w5; exact w5.1
  rw [hly, cntL, cntL] at hl
  have hl1 : l.length = 1 := by rw [hly]; rfl
  obtain ⟨⟨m1, r1⟩, hq⟩ : ∃ q : List S85 × Nat, mk y ns = q := ⟨_, rfl⟩
  have hml := (mk_len _).1 y (Nat.le_refl _) hwy ns
  rw [hq] at hml
  dsimp only at hml
  obtain ⟨ad, A5, c5, ea, ha0, ha1, ha2, ha3, ha4, hl5, hC5⟩ := at_T31 HR4.out (0 : Int) (by decide) (by omega)
  cases ea
  have e0 : rd_T31 l 0 = y := by rw [hly]; rfl
  simp only [e0, Int.toNat_zero, Nat.zero_mul] at ha0 ha1 ha2 ha3 ha4 hl5 hC5
  rw [show ad.add 0 = ad from rfl] at ha0 ha1 ha2 ha3 ha4
  have p0 := eq_true (show (0 : Int) < (l.length : Int) by omega)
  have p1 := eq_true (show 0 < l.length by omega)
  obtain ⟨hn0, hn1, hm⟩ := w2 hk9
  obtain ⟨⟨mf, rf⟩, hqf⟩ : ∃ q : List S85 × Nat, mkRep r1 f1 f2 m1 = q := ⟨_, rfl⟩
  have em : mk ⟨f0, f1, f2, f3, l⟩ ns = (mf, rf) := by rw [hly, mk]; simp only [if_neg hk6, if_neg hk78, if_pos hk9]; rw [mkHd, hq]; exact hqf
  rw [em]
  dsimp only
  have hbf := mkRep_len r1 f1 f2 m1 (w2 hk9)
  rw [hqf] at hbf
  dsimp only at hbf
  have hbm : m1.length < 1099511627776 := by omega
  obtain ⟨y2, hy2⟩ : ∃ q : List S85, m1 ++ [nd0] = q := ⟨_, rfl⟩
  have hyl2 : y2.length = m1.length + 1 := by rw [← hy2]; simp
  have IY := (fun (ws' : World) (PN' : Nat → Prop) (BN' : Option Addr) (DN' : Nat) h => IH.out y hy hwy ws' PN' BN' DN' ns A5 c5 hC5 hl5 (by omega) h)
  rw [hq] at IY
  try dsimp only at IY
  replace IY := am IY
  have LA := (fun (ws' : World) (PN' : Nat → Prop) (BN' : Option Addr) (DN' : Nat) h => spec_add w ws' PG PN' gG BN' DN' T m1 21 0 ⟨#[]⟩ 0 0 (hbm) h)
  rw [show m1 ++ [⟨21, 0, ⟨#[]⟩, 0, 0⟩] = y2 from hy2] at LA
  try dsimp only at LA
  replace LA := am LA
  have HA0 := am ha0
  have HA1 := am ha1
  have HA2 := am ha2
  have HA3 := am ha3
  have HA4 := am ha4
  have HF1 := am (show 0 ≤ f1 ∧ f1 ≤ 20 from ⟨hn0, hn1⟩)
  have HF2 := am hm
  have HBF := am (show mf.length + 2 < 1099511627776 from by omega)
  obtain ⟨⟨M2, R2⟩, hq2⟩ : ∃ q : List S85 × Nat, (if f2 < 0 then (y2 ++ [nd2 9 r1 0], y2.length) else mkOpt r1 (f2 - f1).toNat m1.length y2) = q := ⟨_, rfl⟩
  have HT2 := am (show mkTimes r1 f1.toNat R2 M2 = (mf, rf) from by rw [← hqf]; unfold mkRep; rw [hy2]; by_cases c : f2 < 0; (rw [if_pos c] at hq2 ⊢; injection hq2 with e1 e2; rw [← e1, ← e2, ← hyl2]); (rw [if_neg c] at hq2 ⊢; rw [hq2]))
  have HM2 := am (show M2.length + f1.toNat = mf.length from by have h1 := mkTimes_len r1 f1.toNat R2 M2; rw [HT2.out] at h1; exact h1.symm)
  have HY2 := am hyl2
  obtain ⟨⟨M3, R3⟩, hq3⟩ : ∃ q : List S85 × Nat, (if f2 < 0 then (y2 ++ [nd2 9 r1 0], y2.length) else (y2, m1.length)) = q := ⟨_, rfl⟩
  have HQ3 := am hq3
  have HO := am (show mkOpt r1 (f2 - f1).toNat R3 M3 = (M2, R2) from by by_cases c : f2 < 0; (rw [if_pos c] at hq2 hq3; rw [show (f2 - f1).toNat = 0 by omega, ← hq2, hq3]; rfl); (rw [if_neg c] at hq2 hq3; injection hq3 with e1 e2; rw [← e1, ← e2]; exact hq2))
  have HM3 := am (show M3.length ≤ M2.length from by have h_ := mkOpt_len r1 (f2 - f1).toNat R3 M3; rw [HO.out] at h_; dsimp only at h_; omega)
  clear hqf hn0 hn1 hm hbf hbm hy2 hyl2 hq2 hq3 hq em e0 hy hwy hk hk6 hk7 hk8 hk78 hk9 hly hl1 ha0 ha1 ha2 ha3 ha4 hl5 hC5
  clear hr hc hl hls k1 k2 w1 w2 w3 w4 w5
  obtain ⟨bm, hbm⟩ : ∃ b_ : Bool, decide (f2 < 0) = b_ := ⟨_, rfl⟩
  go_enter Try.func48, Try.ntmps48
  go_upto_if 81 with (first | ((with_reducible refine gd 3 rfl ?_); refine bx_ (N := 3) (cs := #[.int .i64 f0, .int .i64 f1, .int .i64 f2, .string f3, .slice (some ad) l.length c4]) (t := 31) rfl rfl ?hr_4 ?_; (case hr_4 => first | (go_simp; done) | (go_simp; rfl)); intro gX10 hg w2 hb hk PX10 hPX10 HX10; have GEX10 := ge_ hg HB; have D_N_X10 := nl hPX10 HN.out.lt; have D_G_X10 := na hPX10 HG; have RRX10 := ra HK hPX10; replace HN := rn hk HN; replace HG := sn hk HG; replace HK := kt HK hk; replace HB := bs HB hb; clear hb hk hg hPX10; replace jG := HG.out.c3; replace jX10 := HX10.out.c5; (try clear ha0 ha1 ha2 ha3 ha4); have ha0 := ((HB.out.cell (World.block_lt_of_cell? w _ HA0.out)).trans HA0.out); have ha1 := ((HB.out.cell (World.block_lt_of_cell? w _ HA1.out)).trans HA1.out); have ha2 := ((HB.out.cell (World.block_lt_of_cell? w _ HA2.out)).trans HA2.out); have ha3 := ((HB.out.cell (World.block_lt_of_cell? w _ HA3.out)).trans HA3.out); have ha4 := ((HB.out.cell (World.block_lt_of_cell? w _ HA4.out)).trans HA4.out)) | ((with_reducible refine gc 48 rfl ?_); refine gl_ (some 75) rfl rfl Try.func48 #[.pointer (some ⟨gG, 0, none⟩), .agg #[.int .i64 y.f0, .int .i64 y.f1, .int .i64 y.f2, .string y.f3, .slice A5 y.f4.length c5]] rfl rfl ?_; (with_reducible refine (IY.out _ _ _ _ ⟨HB.out, HG.out, HN.out, D_G_N.out, GEG.out⟩).mono ?_); rintro e w2 ⟨BN11, DN11, PN11, rfl, ⟨hb_, hg_, hn_, hd_, hge_⟩, hrr_, hkk_⟩; refine ⟨_, rfl, ?_⟩; have D_X10_N11 := am (apart_app hrr_ HX10.out.lt (apart_or (apart_symm D_G_X10.out) (apart_symm D_N_X10.out))); replace HX10 := ss hkk_ HX10 (apart_or (apart_symm D_G_X10.out) (apart_symm D_N_X10.out)); have RRN11 := am (rr_app hrr_ HK.out.1 (rr_or RRG.out RRN.out)); replace HK := am (HK.out.then_ hkk_ (rr_or RRG.out RRN.out)); replace HB := am hb_; replace HG := am hg_; have HN11 := am hn_; have D_G_N11 := am hd_; clear hb_ hg_ hn_ hd_ hge_ hrr_ hkk_ HN; replace jG := HG.out.c3; replace jX10 := HX10.out.c5) | ((with_reducible refine gc 61 rfl ?_); refine gl_ (some 78) rfl rfl Try.func61 #[.pointer (some ⟨gG, 0, none⟩), .agg #[.int .i64 21, .int .i64 0, .string ⟨#[]⟩, .int .i64 0, .int .i64 0]] rfl rfl ?_; (with_reducible refine (LA.out _ _ _ _ ⟨HB.out, HG.out, HN11.out, D_G_N11.out, GEG.out⟩).mono ?_); rintro e w2 ⟨BN12, DN12, PN12, rfl, ⟨hb_, hg_, hn_, hd_, hge_⟩, hrr_, hkk_⟩; refine ⟨_, rfl, ?_⟩; have D_X10_N12 := am (apart_app hrr_ HX10.out.lt (apart_or (apart_symm D_G_X10.out) D_X10_N11.out)); replace HX10 := ss hkk_ HX10 (apart_or (apart_symm D_G_X10.out) D_X10_N11.out); have RRN12 := am (rr_app hrr_ HK.out.1 (rr_or RRG.out RRN11.out)); replace HK := am (HK.out.then_ hkk_ (rr_or RRG.out RRN11.out)); replace HB := am hb_; replace HG := am hg_; have HN12 := am hn_; have D_G_N12 := am hd_; clear hb_ hg_ hn_ hd_ hge_ hrr_ hkk_ HN11; replace jG := HG.out.c3; replace jX10 := HX10.out.c5))
  have HBM := am hbm
  clear hbm
  try clear ha0 ha1 ha2 ha3 ha4
  clear HA0 HA1 HA2 HA3 HA4
  go_cut [8] from 79 to 86 (fun v8 w' => ∃ (B1 : Option Addr) (D1 : Nat) (P1 : Nat → Prop), v8 = .int .i64 (R3 : Int) ∧ Aside0 (Below w.heap.size w w') ∧ Aside0 (LB w' PG gG 82 #[.slice B1 M3.length D1, .string T, .slice none 0 0]) ∧ Aside0 (LR k85 85 w' w.heap.size P1 (.slice B1 M3.length D1) M3) ∧ Aside0 (∀ k, PG k → ¬ P1 k) ∧ Aside0 (∀ k_, P1 k_ → (PG k_ ∨ PN k_) ∨ ws.heap.size ≤ k_) ∧ Aside0 (Kept ws w' (fun k_ => PG k_ ∨ PN k_)) ∧ Aside0 (LB w' PX10 gX10 31 #[.int .i64 f0, .int .i64 f1, .int .i64 f2, .string f3, .slice (some ad) l.length c4]) ∧ Aside0 (∀ k, PX10 k → ¬ P1 k))
  case first =>
   have hq3 := HQ3.out
   have hbm := HBM.out
   rcases bm with _ | _
   rotate_left
   ·
    have cm := of_decide_eq_true hbm
    rw [if_pos cm] at hq3
    injection hq3 with e1 e2
    have HR3 := am e2
    have LE := (fun (ws' : World) (PN' : Nat → Prop) (BN' : Option Addr) (DN' : Nat) h => spec_add w ws' PG PN' gG BN' DN' T y2 9 0 ⟨#[]⟩ (r1 : Int) 0 (by have h1 := congrArg List.length e1; simp at h1; have := HBF.out; have := HM2.out; have h_ := HM3.out; omega) h)
    rw [show y2 ++ [⟨9, 0, ⟨#[]⟩, (r1 : Int), 0⟩] = M3 from e1] at LE
    try dsimp only at LE
    replace LE := am LE
    clear cm e1 e2 hbm
    go_wp2_with (first | ((with_reducible refine gc 61 rfl ?_); refine gl_ (some 85) rfl rfl Try.func61 #[.pointer (some ⟨gG, 0, none⟩), .agg #[.int .i64 9, .int .i64 0, .string ⟨#[]⟩, .int .i64 (r1 : Int), .int .i64 0]] rfl rfl ?_; (with_reducible refine (LE.out _ _ _ _ ⟨HB.out, HG.out, HN12.out, D_G_N12.out, GEG.out⟩).mono ?_); rintro e w2 ⟨BN13, DN13, PN13, rfl, ⟨hb_, hg_, hn_, hd_, hge_⟩, hrr_, hkk_⟩; refine ⟨_, rfl, ?_⟩; have D_X10_N13 := am (apart_app hrr_ HX10.out.lt (apart_or (apart_symm D_G_X10.out) D_X10_N12.out)); replace HX10 := ss hkk_ HX10 (apart_or (apart_symm D_G_X10.out) D_X10_N12.out); have RRN13 := am (rr_app hrr_ HK.out.1 (rr_or RRG.out RRN12.out)); replace HK := am (HK.out.then_ hkk_ (rr_or RRG.out RRN12.out)); replace HB := am hb_; replace HG := am hg_; have HN13 := am hn_; have D_G_N13 := am hd_; clear hb_ hg_ hn_ hd_ hge_ hrr_ hkk_ HN12; replace jG := HG.out.c3; replace jX10 := HX10.out.c5))
    go_meet
    case rel => exact ⟨_, _, _, by rw [← HR3.out], HB, HG, HN13, D_G_N13, RRN13, HK, HX10, D_X10_N13⟩
   have cm := of_decide_eq_false hbm
   rw [if_neg cm] at hq3
   injection hq3 with e1 e2
   subst e1 e2
   clear cm hbm
   go_wp2
   go_meet
   case rel => exact ⟨_, _, _, rfl, HB, HG, HN12, D_G_N12, RRN12, HK, HX10, D_X10_N12⟩
  case rest =>
   clear HB HG HN12 D_G_N12 RRN12 HK HX10 D_X10_N12
   try clear jG
   try clear jX10
   obtain ⟨B3, D3, P3, rfl, HB, HG, H3, D_G_3, RR3, HK, HX10, D_X10_3⟩ := hcut
   replace jG := HG.out.c3
   replace jX10 := HX10.out.c5
   go_wp2
   go_loopg [8, 9] ((f2 - f1).toNat + 1) (fun kq v8 v9 w' => ∃ (i : Int) (m3 : List S85) (r3 : Nat) (B1 : Option Addr) (D1 : Nat) (P1 : Nat → Prop), v8 = .int .i64 (r3 : Int) ∧ v9 = .int .i64 i ∧ Aside0 (f1 ≤ i ∧ (f2 - i).toNat + 1 = kq ∧ i ≤ 20) ∧ Aside0 (mkOpt r1 (f2 - i).toNat r3 m3 = (M2, R2)) ∧ Aside0 (Below w.heap.size w w') ∧ Aside0 (LB w' PG gG 82 #[.slice B1 m3.length D1, .string T, .slice none 0 0]) ∧ Aside0 (LR k85 85 w' w.heap.size P1 (.slice B1 m3.length D1) m3) ∧ Aside0 (∀ k, PG k → ¬ P1 k) ∧ Aside0 (∀ k_, P1 k_ → (PG k_ ∨ PN k_) ∨ ws.heap.size ≤ k_) ∧ Aside0 (Kept ws w' (fun k_ => PG k_ ∨ PN k_)) ∧ Aside0 (LB w' PX10 gX10 31 #[.int .i64 f0, .int .i64 f1, .int .i64 f2, .string f3, .slice (some ad) l.length c4]) ∧ Aside0 (∀ k, PX10 k → ¬ P1 k))
   case atStart => exact ⟨f1, _, _, _, _, _, rfl, rfl, ⟨Int.le_refl _, rfl, HF1.out.2⟩, HO, HB, HG, H3, D_G_3, RR3, HK, HX10, D_X10_3⟩
   case round =>
    clear HB HG H3 D_G_3 RR3 HK HX10 D_X10_3
    try clear jG
    try clear jX10
    obtain ⟨i, m3, r3, BM, DM, PM, rfl, rfl, HI, HQ, HB, HG, HM, D_G_M, RRM, HK, HX10, D_X10_M⟩ := hrel
    replace jG := HG.out.c3
    replace jX10 := HX10.out.c5
    by_cases hlt : i < f2
    ·
     obtain ⟨c, hc⟩ : ∃ c, (f2 - i).toNat = c + 1 := ⟨(f2 - i).toNat - 1, by omega⟩
     obtain ⟨k1, rfl⟩ : ∃ k_, gk = k_ + 1 := ⟨gk - 1, by have := HI.out; omega⟩
     have hci : (f2 - (i + 1)).toNat = c := by omega
     have hq := HQ.out
     rw [hc, mkOpt] at hq
     have hln := mkOpt_len r1 c (m3.length + 1) (m3 ++ [nd2 7 r1 r3] ++ [nd2 20 m3.length 0])
     rw [hq] at hln
     simp only [List.length_append, List.length_cons, List.length_nil] at hln
     have hb1 : m3.length + 3 < 1099511627776 := by have := HBF.out; have := HM2.out; omega
     obtain ⟨y3, hy3⟩ : ∃ q : List S85, m3 ++ [nd2 7 r1 r3] = q := ⟨_, rfl⟩
     have hyl3 : y3.length = m3.length + 1 := by rw [← hy3]; simp
     obtain ⟨y4, hy4⟩ : ∃ q : List S85, y3 ++ [nd2 20 m3.length 0] = q := ⟨_, rfl⟩
     rw [hy3, hy4, ← hyl3] at hq
     have HQ1 := am hq
     have LC := (fun (ws' : World) (PN' : Nat → Prop) (BN' : Option Addr) (DN' : Nat) h => spec_both w ws' PG PN' gG BN' DN' T m3 (r1 : Int) (r3 : Int) (by omega) h)
     rw [show m3 ++ [⟨7, 0, ⟨#[]⟩, (r1 : Int), (r3 : Int)⟩] = y3 from hy3] at LC
     try dsimp only at LC
     replace LC := am LC
     have LD := (fun (ws' : World) (PN' : Nat → Prop) (BN' : Option Addr) (DN' : Nat) h => spec_add w ws' PG PN' gG BN' DN' T y3 20 0 ⟨#[]⟩ (m3.length : Int) 0 (by omega) h)
     rw [show y3 ++ [⟨20, 0, ⟨#[]⟩, (m3.length : Int), 0⟩] = y4 from hy4] at LD
     try dsimp only at LD
     replace LD := am LD
     have HCI := am (show (f2 - (i + 1)).toNat = c ∧ c + 2 = k1 + 1 from ⟨hci, by have := HI.out; omega⟩)
     have clt : decide (i < f2) = true := decide_eq_true hlt
     have hw1 : wrap64 (i + 1) = i + 1 := by have h1 := HI.out; have h2 := HF1.out; have h3 := HF2.out; unfold wrap64; omega
     have HIL := am (show i + 1 ≤ 20 from by have h1 := HF2.out; have h2 := HF1.out; have h3 := HI.out; omega)
     clear hlt hc hci hq hln hb1 hy3 hyl3 hy4
     go_wp2_with (first | ((with_reducible refine gc 62 rfl ?_); refine gl_ (some 98) rfl rfl Try.func62 #[.pointer (some ⟨gG, 0, none⟩), .int .i64 (r1 : Int), .int .i64 (r3 : Int)] rfl rfl ?_; (with_reducible refine (LC.out _ _ _ _ ⟨HB.out, HG.out, HM.out, D_G_M.out, GEG.out⟩).mono ?_); rintro e w2 ⟨BN14, DN14, PN14, rfl, ⟨hb_, hg_, hn_, hd_, hge_⟩, hrr_, hkk_⟩; refine ⟨_, rfl, ?_⟩; have D_X10_N14 := am (apart_app hrr_ HX10.out.lt (apart_or (apart_symm D_G_X10.out) D_X10_M.out)); replace HX10 := ss hkk_ HX10 (apart_or (apart_symm D_G_X10.out) D_X10_M.out); have RRN14 := am (rr_app hrr_ HK.out.1 (rr_or RRG.out RRM.out)); replace HK := am (HK.out.then_ hkk_ (rr_or RRG.out RRM.out)); replace HB := am hb_; replace HG := am hg_; have HN14 := am hn_; have D_G_N14 := am hd_; clear hb_ hg_ hn_ hd_ hge_ hrr_ hkk_ HM; replace jG := HG.out.c3; replace jX10 := HX10.out.c5) | ((with_reducible refine gc 61 rfl ?_); refine gl_ (some 100) rfl rfl Try.func61 #[.pointer (some ⟨gG, 0, none⟩), .agg #[.int .i64 20, .int .i64 0, .string ⟨#[]⟩, .int .i64 (m3.length : Int), .int .i64 0]] rfl rfl ?_; (with_reducible refine (LD.out _ _ _ _ ⟨HB.out, HG.out, HN14.out, D_G_N14.out, GEG.out⟩).mono ?_); rintro e w2 ⟨BN15, DN15, PN15, rfl, ⟨hb_, hg_, hn_, hd_, hge_⟩, hrr_, hkk_⟩; refine ⟨_, rfl, ?_⟩; have D_X10_N15 := am (apart_app hrr_ HX10.out.lt (apart_or (apart_symm D_G_X10.out) D_X10_N14.out)); replace HX10 := ss hkk_ HX10 (apart_or (apart_symm D_G_X10.out) D_X10_N14.out); have RRN15 := am (rr_app hrr_ HK.out.1 (rr_or RRG.out RRN14.out)); replace HK := am (HK.out.then_ hkk_ (rr_or RRG.out RRN14.out)); replace HB := am hb_; replace HG := am hg_; have HN15 := am hn_; have D_G_N15 := am hd_; clear hb_ hg_ hn_ hd_ hge_ hrr_ hkk_ HN14; replace jG := HG.out.c3; replace jX10 := HX10.out.c5))
     go_roundg k1
     case measure => omega
     case rel => exact ⟨i + 1, _, _, _, _, _, rfl, by first | rfl | rw [hw1], ⟨by have := HI.out; omega, by have := HCI.out; omega, HIL.out⟩, ⟨by rw [HCI.out.1]; exact HQ1.out⟩, HB, HG, HN15, D_G_N15, RRN15, HK, HX10, D_X10_N15⟩
    have hq := HQ.out
    rw [show (f2 - i).toNat = 0 by omega, mkOpt] at hq
    injection hq with hf1 hf2
    subst hf1 hf2
    have clt : decide (i < f2) = false := decide_eq_false hlt
    clear hlt
    go_wp2
    clear clt
    go_loopg [8, 10] (f1.toNat + 1) (fun kq v8 v10 w' => ∃ (i : Nat) (m4 : List S85) (r4 : Nat) (B1 : Option Addr) (D1 : Nat) (P1 : Nat → Prop), v8 = .int .i64 (r4 : Int) ∧ v10 = .int .i64 (i : Int) ∧ Aside0 (i + kq = f1.toNat + 1 ∧ 0 < kq) ∧ Aside0 (mkTimes r1 (f1.toNat - i) r4 m4 = (mf, rf)) ∧ Aside0 (Below w.heap.size w w') ∧ Aside0 (LB w' PG gG 82 #[.slice B1 m4.length D1, .string T, .slice none 0 0]) ∧ Aside0 (LR k85 85 w' w.heap.size P1 (.slice B1 m4.length D1) m4) ∧ Aside0 (∀ k, PG k → ¬ P1 k) ∧ Aside0 (∀ k_, P1 k_ → (PG k_ ∨ PN k_) ∨ ws.heap.size ≤ k_) ∧ Aside0 (Kept ws w' (fun k_ => PG k_ ∨ PN k_)) ∧ Aside0 (LB w' PX10 gX10 31 #[.int .i64 f0, .int .i64 f1, .int .i64 f2, .string f3, .slice (some ad) l.length c4]) ∧ Aside0 (∀ k, PX10 k → ¬ P1 k))
    case atStart => exact ⟨0, _, _, _, _, _, rfl, rfl, ⟨by omega, by omega⟩, ⟨by rw [Nat.sub_zero]; exact HT2.out⟩, HB, HG, HM, D_G_M, RRM, HK, HX10, D_X10_M⟩
    case round =>
     clear HB HG HM D_G_M RRM HK HX10 D_X10_M
     try clear jG
     try clear jX10
     obtain ⟨j, m4, r4, BQ, DQ, PQ, rfl, rfl, HJ, HU, HB, HG, HQ, D_G_Q, RRQ, HK, HX10, D_X10_Q⟩ := hrel
     replace jG := HG.out.c3
     replace jX10 := HX10.out.c5
     by_cases hlt : (j : Int) < f1
     ·
      obtain ⟨c, hc⟩ : ∃ c, f1.toNat - j = c + 1 := ⟨f1.toNat - j - 1, by omega⟩
      obtain ⟨k1, rfl⟩ : ∃ k_, gk = k_ + 1 := ⟨gk - 1, by have := HJ.out; omega⟩
      have hci : f1.toNat - (j + 1) = c := by omega
      have hq := HU.out
      rw [hc, mkTimes] at hq
      have hln := mkTimes_len r1 c m4.length (m4 ++ [nd2 7 r1 r4])
      rw [hq] at hln
      simp only [List.length_append, List.length_cons, List.length_nil] at hln
      have hb1 : m4.length < 1099511627776 := by have := HBF.out; omega
      obtain ⟨y3, hy3⟩ : ∃ q : List S85, m4 ++ [nd2 7 r1 r4] = q := ⟨_, rfl⟩
      rw [hy3] at hq
      have HQ1 := am hq
      have LC := (fun (ws' : World) (PN' : Nat → Prop) (BN' : Option Addr) (DN' : Nat) h => spec_both w ws' PG PN' gG BN' DN' T m4 (r1 : Int) (r4 : Int) hb1 h)
      rw [show m4 ++ [⟨7, 0, ⟨#[]⟩, (r1 : Int), (r4 : Int)⟩] = y3 from hy3] at LC
      try dsimp only at LC
      replace LC := am LC
      have HCI := am (show f1.toNat - (j + 1) = c ∧ j + 1 + k1 = f1.toNat + 1 ∧ 0 < k1 from ⟨hci, by have := HJ.out; omega, by have := HJ.out; omega⟩)
      have clt : decide ((j : Int) < f1) = true := decide_eq_true hlt
      have hw1 : wrap64 ((j : Int) + 1) = ((j + 1 : Nat) : Int) := by have h1 := HF1.out; unfold wrap64; omega
      clear hlt hc hci hq hln hb1 hy3
      go_wp2_with (first | ((with_reducible refine gc 62 rfl ?_); refine gl_ (some 110) rfl rfl Try.func62 #[.pointer (some ⟨gG, 0, none⟩), .int .i64 (r1 : Int), .int .i64 (r4 : Int)] rfl rfl ?_; (with_reducible refine (LC.out _ _ _ _ ⟨HB.out, HG.out, HQ.out, D_G_Q.out, GEG.out⟩).mono ?_); rintro e w2 ⟨BN16, DN16, PN16, rfl, ⟨hb_, hg_, hn_, hd_, hge_⟩, hrr_, hkk_⟩; refine ⟨_, rfl, ?_⟩; have D_X10_N16 := am (apart_app hrr_ HX10.out.lt (apart_or (apart_symm D_G_X10.out) D_X10_Q.out)); replace HX10 := ss hkk_ HX10 (apart_or (apart_symm D_G_X10.out) D_X10_Q.out); have RRN16 := am (rr_app hrr_ HK.out.1 (rr_or RRG.out RRQ.out)); replace HK := am (HK.out.then_ hkk_ (rr_or RRG.out RRQ.out)); replace HB := am hb_; replace HG := am hg_; have HN16 := am hn_; have D_G_N16 := am hd_; clear hb_ hg_ hn_ hd_ hge_ hrr_ hkk_ HQ; replace jG := HG.out.c3; replace jX10 := HX10.out.c5))
      go_roundg k1
      case measure => omega
      case rel => exact ⟨j + 1, _, _, _, _, _, rfl, by first | rfl | rw [hw1] | simp, ⟨HCI.out.2⟩, ⟨by rw [HCI.out.1]; exact HQ1.out⟩, HB, HG, HN16, D_G_N16, RRN16, HK, HX10, D_X10_N16⟩
     have hq := HU.out
     rw [show f1.toNat - j = 0 by omega, mkTimes] at hq
     injection hq with hf1 hf2
     subst hf1 hf2
     have clt : decide ((j : Int) < f1) = false := decide_eq_false hlt
     clear hlt
     go_wp2
     go_ret
     exact ⟨_, _, _, rfl, ⟨HB.out, HG.out, HQ.out, D_G_Q.out, GEG.out⟩, RRQ.out, HK.out⟩
 have hk7 : ¬ f0 = 7 := fun h => hk78 (.inl h)
 have hk8 : ¬ f0 = 8 := fun h => hk78 (.inr h)
 have k6_ : (f0 == 6) = false := beq_eq_false_iff_ne.mpr hk6
 have k7_ : (f0 == 7) = false := beq_eq_false_iff_ne.mpr hk7
 have k8_ : (f0 == 8) = false := beq_eq_false_iff_ne.mpr hk8
 have k9_ : (f0 == 9) = false := beq_eq_false_iff_ne.mpr hk9
 obtain ⟨y2, hy2⟩ : ∃ q : List S85, ns ++ [⟨f0, f1, f3, 0, 0⟩] = q := ⟨_, rfl⟩
 have em : mk ⟨f0, f1, f2, f3, l⟩ ns = (y2, ns.length) := by rw [mk]; simp only [if_neg hk6, if_neg hk78, if_neg hk9]; rw [hy2]
 rw [em]
 dsimp only
 have LA := (fun (ws' : World) (PN' : Nat → Prop) (BN' : Option Addr) (DN' : Nat) h => spec_add w ws' PG PN' gG BN' DN' T ns f0 f1 f3 0 0 (by omega) h)
 rw [hy2] at LA
 try dsimp only at LA
 replace LA := am LA
 clear hk6 hk7 hk8 hk78 hk9 em hy2
 clear hr hc hl hls k1 k2 w1 w2 w3 w4 w5
 go_enter Try.func48, Try.ntmps48
 go_wp2_with (first | ((with_reducible refine gd 3 rfl ?_); refine bx_ (N := 3) (cs := #[.int .i64 f0, .int .i64 f1, .int .i64 f2, .string f3, .slice A4 l.length c4]) (t := 31) rfl rfl ?hr_5 ?_; (case hr_5 => first | (go_simp; done) | (go_simp; rfl)); intro gX17 hg w2 hb hk PX17 hPX17 HX17; have GEX17 := ge_ hg HB; have D_N_X17 := nl hPX17 HN.out.lt; have D_G_X17 := na hPX17 HG; have RRX17 := ra HK hPX17; replace HN := rn hk HN; replace HG := sn hk HG; replace HK := kt HK hk; replace HB := bs HB hb; clear hb hk hg hPX17; replace jG := HG.out.c3; replace jX17 := HX17.out.c5) | ((with_reducible refine gc 61 rfl ?_); refine gl_ (some 120) rfl rfl Try.func61 #[.pointer (some ⟨gG, 0, none⟩), .agg #[.int .i64 f0, .int .i64 f1, .string f3, .int .i64 0, .int .i64 0]] rfl rfl ?_; (with_reducible refine (LA.out _ _ _ _ ⟨HB.out, HG.out, HN.out, D_G_N.out, GEG.out⟩).mono ?_); rintro e w2 ⟨BN18, DN18, PN18, rfl, ⟨hb_, hg_, hn_, hd_, hge_⟩, hrr_, hkk_⟩; refine ⟨_, rfl, ?_⟩; have D_X17_N18 := am (apart_app hrr_ HX17.out.lt (apart_or (apart_symm D_G_X17.out) (apart_symm D_N_X17.out))); replace HX17 := ss hkk_ HX17 (apart_or (apart_symm D_G_X17.out) (apart_symm D_N_X17.out)); have RRN18 := am (rr_app hrr_ HK.out.1 (rr_or RRG.out RRN.out)); replace HK := am (HK.out.then_ hkk_ (rr_or RRG.out RRN.out)); replace HB := am hb_; replace HG := am hg_; have HN18 := am hn_; have D_G_N18 := am hd_; clear hb_ hg_ hn_ hd_ hge_ hrr_ hkk_ HN; replace jG := HG.out.c3; replace jX17 := HX17.out.c5))
 go_ret
 exact ⟨_, _, _, rfl, ⟨HB.out, HG.out, HN18.out, D_G_N18.out, GEG.out⟩, RRN18.out, HK.out⟩
end
end Go.Proofs.Ytlpabbcgichaoaa.PFnExactFind
end
