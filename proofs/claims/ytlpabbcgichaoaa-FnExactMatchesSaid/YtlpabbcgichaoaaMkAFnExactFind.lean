/- The reference's machine is made: a node is put behind the others. -/
import Derived.Test.YtlpabbcgichaoaaMatFnExactFind
import Derived.Deep.QuietTactic
import Derived.BigQuiet
import Derived.StillTailTactics
import Derived.Outline
import Derived.Deep.RegionHeld3
import Derived.Deep.Cut
import Derived.Test.YtlpabbcgichaoaaHw
import Derived.Test.YtlpabbcgichaoaaPk
import Derived.Test.YtlpabbcgichaoaaPq
namespace Go.Proofs.Ytlpabbcgichaoaa.PFnExactFind
open Go.RowKit Go.Proofs.Ytlpabbcgichaoaa.Lawful Go.Proofs.YtlpabbcgichaoaaW.PrintWords Go.Proofs.YtlpabbcgichaoaaW.PrintLast Go.Proofs.YtlpabbcgichaoaaW.PrintMore
attribute [local go_sem] max2_int min2_int max_two min_two max_three min_three max_four min_four   -- for this text's walks alone
set_option linter.unusedVariables false
set_option linter.unusedSimpArgs false
section
open Go.Proofs.Ytlpabbcgichaoaa.Lawful
@[reducible] def l06B (w ws : World) (PG PN : Nat → Prop) (g : Nat) (B : Option Addr) (D : Nat) (T : ByteArray) (ns : List S85) : Prop :=
 Below w.heap.size w ws ∧ LB ws PG g 82 #[.slice B ns.length D, .string T, .slice none 0 0] ∧ LR k85 85 ws w.heap.size PN (.slice B ns.length D) ns ∧ (∀ k, PG k → ¬ PN k) ∧ w.heap.size ≤ g
@[reducible] def l06BP (w ws : World) (PG PN : Nat → Prop) (g : Nat) (T : ByteArray) (ns : List S85) (v : Value) (e : Ending) (w' : World) : Prop :=
 ∃ (B : Option Addr) (D : Nat) (PN' : Nat → Prop), e = .returned v ∧ l06B w w' PG PN' g B D T ns ∧ (∀ k, PN' k → (PG k ∨ PN k) ∨ ws.heap.size ≤ k) ∧ Kept ws w' (fun k_ => PG k_ ∨ PN k_)
theorem info85 : (Try.prog.info? 85).map (fun i => (i.zero, i.size, i.bytes)) = some (some (.agg #[.int .i64 0, .int .i64 0, .string ⟨#[]⟩, .int .i64 0, .int .i64 0]), 5, 48) := by kernel_rfl
def spec_add.T1 : Bool × List (List Nat × List Nat) := (true, [([], []), ([], []), ([1], [1]), ([2], [2]), ([3], [3]), ([], []), ([5], [5]), ([4, 6], [4, 6]), ([0, 0, 1, 2, 3, 4, 5, 6, 7], [0]), ([8, 0, 1, 2, 3, 4, 5, 6, 7], [8]), ([9, 7, 7, 0, 1, 2, 3, 4, 5, 6, 7], [7, 9])])
def spec_add.B1 : List Nat := [0, 0, 2, 6, 14, 0, 32, 126, 255, 511, 1023]
theorem spec_add.tab1 : rtab .any (opsOf Try.f61 1) = spec_add.T1 := by kernel_rfl
theorem spec_add.bits1 : waitsOk spec_add.T1.2 spec_add.B1 = true := by kernel_rfl
set_option maxHeartbeats 16000000 in
set_option maxRecDepth 100000 in
theorem spec_add (w ws : World) (PG PN : Nat → Prop) (gG : Nat) (BN : Option Addr) (DN : Nat) (T : ByteArray) (ns : List S85) (f0 f1 : Int) (f2 : ByteArray) (f3 f4 : Int) (hl : ns.length < 1099511627776) (hAt : l06B w ws PG PN gG BN DN T ns) :
  Calls Try.prog 61 #[.pointer (some ⟨gG, 0, none⟩), .agg #[.int .i64 f0, .int .i64 f1, .string f2, .int .i64 f3, .int .i64 f4]] ws (l06BP w ws PG PN gG T (ns ++ [⟨f0, f1, f2, f3, f4⟩]) (.int .i64 (ns.length : Int))) := by
 have hu := Try.underlying82
 have hu2 := Try.underlying85
 have hu3 := Try.underlying31
 obtain ⟨hb_, hg_, hn_, hd_, hge_⟩ := hAt
 have HB := Aside0.mk hb_
 have HG := Aside0.mk hg_
 have HN := Aside0.mk hn_
 have D_G_N := Aside0.mk hd_
 have GEG := Aside0.mk hge_
 have HK := Aside0.mk (Kept.refl ws (fun k_ => PG k_ ∨ PN k_))
 have RRG := Aside0.mk (show ∀ k_, PG k_ → (fun k_ => PG k_ ∨ PN k_) k_ ∨ ws.heap.size ≤ k_ from fun _ h_ => .inl (.inl h_))
 have RRN := Aside0.mk (show ∀ k_, PN k_ → (fun k_ => PG k_ ∨ PN k_) k_ ∨ ws.heap.size ≤ k_ from fun _ h_ => .inl (.inr h_))
 clear hb_ hg_ hn_ hd_ hge_
 have HL := Aside0.mk hl
 have hw2 := (show wrap64 ((ns.length : Nat) : Int) = (ns.length : Int) by unfold wrap64; omega)
 obtain ⟨y1, hy1⟩ : ∃ y_ : List S85, y_ = ns ++ [⟨f0, f1, f2, f3, f4⟩] := ⟨_, rfl⟩
 have Ny1 := Aside0.mk hy1
 rw [← hy1]
 have hyl : y1.length = ns.length + 1 := by rw [hy1]; simp
 have hw := (show wrap64 ((y1.length : Int) - 1) = (ns.length : Int) by unfold wrap64; omega)
 clear hy1 hl hyl
 replace jG := HG.out.c3
 go_enter Try.func61, Try.ntmps61
 go_upto_region 1 with (first | ((with_reducible refine gate_dst (N := 3) rfl ?_); refine bx_ (N := 3) (cs := #[.int .i64 f0, .int .i64 f1, .string f2, .int .i64 f3, .int .i64 f4]) (t := 85) rfl rfl ?hr_1 ?_; (case hr_1 => first | (go_simp; done) | (go_simp; rfl)); intro gX1 hg w2 hb hk PX1 hPX1 HX1; have GEX1 := Aside0.mk (gen_ hg HB.out); have D_N_X1 := Aside0.mk (new_apart HN.out.lt hPX1); have D_G_X1 := na hPX1 HG; have RRX1 := Aside0.mk (rrn HK.out hPX1); replace HN := Aside0.mk (HN.out.step hk no_S); replace HG := sn hk HG; replace HK := Aside0.mk (HK.out.then_ hk no_R); replace HB := Aside0.mk (below_step HB.out hb); clear hb hk hg hPX1; replace jG := HG.out.c3; replace jX1 := HX1.out.c5))
 refine start_ (n := 11) (S := fun w' => w'.cell? ⟨gG, 0, none⟩ = some (.slice BN ns.length DN) ∧ w'.cell? ⟨gX1, 0, none⟩ = some (.int .i64 f0) ∧ w'.cell? ⟨gX1, 1, none⟩ = some (.int .i64 f1) ∧ w'.cell? ⟨gX1, 2, none⟩ = some (.string f2) ∧ w'.cell? ⟨gX1, 3, none⟩ = some (.int .i64 f3) ∧ w'.cell? ⟨gX1, 4, none⟩ = some (.int .i64 f4)) (ds := [10]) #[false, false, false, false, false, false, false, false, false, false, false] (by kernel_rfl) rfl rfl ⟨jG.1, jX1.1, jX1.2.2.1, jX1.2.2.2.2.1, jX1.2.2.2.2.2.2.1, jX1.2.2.2.2.2.2.2.2.1⟩ (fun hHeld => ?_)
 refine with_tabW spec_add.tab1 spec_add.bits1 (fun HT_ HW_ => ?_)
 generalize hwd_ : World.drew w2 = wd_ at hHeld ⊢
 have hk := kept_drew hwd_
 replace HN := Aside0.mk (HN.out.step hk no_S)
 replace HG := sn hk HG
 replace HX1 := sn hk HX1
 replace HK := Aside0.mk (HK.out.then_ hk no_R)
 replace HB := Aside0.mk (below_drewd HB.out hwd_)
 clear hk hwd_
 replace jG := HG.out.c3
 replace jX1 := HX1.out.c5
 refine pu 0 5 HT_.out rfl rfl rfl ?_
 refine pu 1 6 HT_.out rfl rfl rfl ?_
 refine pu 2 7 HT_.out rfl rfl rfl ?_
 refine pu 3 8 HT_.out rfl rfl rfl ?_
 refine tk 4 9 HT_.out HW_.out hHeld rfl rfl rfl ?_
 refine tk 5 10 HT_.out HW_.out hHeld rfl rfl rfl ?_
 refine on_ 6 (some 11) HT_.out rfl rfl fun K hK => ?_
 refine event_step (by rfl) (by first | (go_simp; exact ⟨rfl, rfl⟩) | (go_simp; done) | (go_simp; rfl)) ?_
 refine hK.out _ _ ⟨(pw_cell_below (below_alloc (Below.refl _ _) _) jG.1), (pw_cell_below (below_alloc (Below.refl _ _) _) jX1.1), (pw_cell_below (below_alloc (Below.refl _ _) _) jX1.2.2.1), (pw_cell_below (below_alloc (Below.refl _ _) _) jX1.2.2.2.2.1), (pw_cell_below (below_alloc (Below.refl _ _) _) jX1.2.2.2.2.2.2.1), (pw_cell_below (below_alloc (Below.refl _ _) _) jX1.2.2.2.2.2.2.2.2.1)⟩ (fun hHeld => ?_)
 clear hK K
 refine norm_ (a' := ?_) ?_ ?_
 rotate_left
 ·
  show Act.put _ (some 11) _ = _
  simp only [Act.put, List.setIfInBounds_toArray, List.set_cons_zero, List.set_cons_succ, i64_w, i32_w]
  rfl
 refine on_ 7 (some 12) HT_.out rfl rfl fun K hK => ?_
 refine LR.append1_step k85 (w0 := w) (by rfl) (.tmp 9) (.tmp 11) 79 85 (.agg #[.int .i64 0, .int .i64 0, .string ByteArray.empty, .int .i64 0, .int .i64 0]) 48 rfl Try.underlying79 info85 rfl (by decide) (by omega) (.slice BN ns.length DN) ns (⟨f0, f1, f2, f3, f4⟩ : S85) [.int .i64 f0, .int .i64 f1, .string f2, .int .i64 f3, .int .i64 f4] rfl rfl (by simp) HN.out (k85_mkM _ _ _ (⟨f0, f1, f2, f3, f4⟩ : S85)) (fun _ _ h_ => h_) HB.out ?aL_2 ?_
 (case aL_2 => have := HL.out; omega)
 intro PF2 v_ w2 HL hb hk hR
 have D_G_F2 := Aside0.mk (apart_app hR HG.out.lt D_G_N.out)
 have D_X1_F2 := Aside0.mk (apart_app hR HX1.out.lt (apart_symm D_N_X1.out))
 have RRF2 := Aside0.mk (show ∀ k_, PF2 k_ → (fun k_ => PG k_ ∨ PN k_) k_ ∨ ws.heap.size ≤ k_ from rr_app hR HK.out.1 RRN.out)
 replace HG := ss hk HG D_G_N.out
 replace HX1 := ss hk HX1 (apart_symm D_N_X1.out)
 replace HK := Aside0.mk (HK.out.then_ hk RRN.out)
 rw [← Ny1.out] at HL
 have HF2 := Aside0.mk HL
 replace HB := Aside0.mk hb
 clear hR HL hb hk
 clear HN
 obtain ⟨BF2, DF2, e_F2⟩ := HF2.out.val
 subst e_F2
 replace jG := HG.out.c3
 replace jX1 := HX1.out.c5
 refine hK.out _ _ ⟨jG.1, jX1.1, jX1.2.2.1, jX1.2.2.2.2.1, jX1.2.2.2.2.2.2.1, jX1.2.2.2.2.2.2.2.2.1⟩ (fun hHeld => ?_)
 clear hK K
 refine norm_ (a' := ?_) ?_ ?_
 rotate_left
 ·
  show Act.put _ (some 12) _ = _
  simp only [Act.put, List.setIfInBounds_toArray, List.set_cons_zero, List.set_cons_succ, i64_w, i32_w]
  rfl
 refine pu 8 13 HT_.out rfl rfl rfl ?_
 refine pu 9 14 HT_.out rfl rfl rfl ?_
 refine la_ 10 none HT_.out rfl rfl fun K hK => ?_
 refine LB.stored_step HG.out HB.out GEG.out 0 [.slice BF2 y1.length DF2] (by rfl) rfl ?hr_3 ?_
 (case hr_3 => first | (go_simp; done) | (go_simp; simp only [World.setCells, Nat.reduceAdd, Nat.zero_add]; done))
 intro w2 hx hk hb
 replace HX1 := ss hk HX1 (apart_symm D_G_X1.out)
 replace HF2 := Aside0.mk (HF2.out.step hk (apart_symm D_G_F2.out))
 replace HK := Aside0.mk (HK.out.then_ hk RRG.out)
 replace HB := Aside0.mk hb
 replace HG := Aside0.mk (show LB w2 PG gG 82 #[.slice BF2 y1.length DF2, .string T, .slice none 0 0] from hx)
 clear hk hx hb
 replace jG := HG.out.c3
 replace jX1 := HX1.out.c5
 refine hK.out _ _ ?_
 clear hK K
 refine done_ (done_of HT_.out (by kernel_rfl)) ?_
 go_wp2
 go_ret
 exact ⟨_, _, _, rfl, ⟨HB.out, HG.out, HF2.out, D_G_F2.out, GEG.out⟩, RRF2.out, HK.out⟩
set_option maxHeartbeats 16000000 in
set_option maxRecDepth 100000 in
theorem spec_both (w ws : World) (PG PN : Nat → Prop) (gG : Nat) (BN : Option Addr) (DN : Nat) (T : ByteArray) (ns : List S85) (a b : Int) (hl : ns.length < 1099511627776) (hAt : l06B w ws PG PN gG BN DN T ns) :
  Calls Try.prog 62 #[.pointer (some ⟨gG, 0, none⟩), .int .i64 a, .int .i64 b] ws (l06BP w ws PG PN gG T (ns ++ [⟨7, 0, ⟨#[]⟩, a, b⟩]) (.int .i64 (ns.length : Int))) := by
 have hu := Try.underlying82
 have hu2 := Try.underlying85
 have hu3 := Try.underlying31
 obtain ⟨hb_, hg_, hn_, hd_, hge_⟩ := hAt
 have HB := Aside0.mk hb_
 have HG := Aside0.mk hg_
 have HN := Aside0.mk hn_
 have D_G_N := Aside0.mk hd_
 have GEG := Aside0.mk hge_
 have HK := Aside0.mk (Kept.refl ws (fun k_ => PG k_ ∨ PN k_))
 have RRG := Aside0.mk (show ∀ k_, PG k_ → (fun k_ => PG k_ ∨ PN k_) k_ ∨ ws.heap.size ≤ k_ from fun _ h_ => .inl (.inl h_))
 have RRN := Aside0.mk (show ∀ k_, PN k_ → (fun k_ => PG k_ ∨ PN k_) k_ ∨ ws.heap.size ≤ k_ from fun _ h_ => .inl (.inr h_))
 clear hb_ hg_ hn_ hd_ hge_
 have HL := Aside0.mk hl
 clear hl
 obtain ⟨y1, hy1⟩ : ∃ y_ : List S85, y_ = ns ++ [⟨7, 0, ⟨#[]⟩, a, b⟩] := ⟨_, rfl⟩
 have LA := Aside0.mk (fun (ws' : World) (PN' : Nat → Prop) (BN' : Option Addr) (DN' : Nat) h => hy1 ▸ spec_add w ws' PG PN' gG BN' DN' T ns 7 0 ⟨#[]⟩ a b HL.out h)
 rw [← hy1]
 clear hy1
 replace jG := HG.out.c3
 go_enter Try.func62, Try.ntmps62
 go_wp2_with (first | ((with_reducible refine gate_callee (f := 61) rfl ?_); refine gl_ (some 11) rfl rfl Try.func61 #[.pointer (some ⟨gG, 0, none⟩), .agg #[.int .i64 7, .int .i64 0, .string ⟨#[]⟩, .int .i64 a, .int .i64 b]] rfl rfl ?_; (with_reducible refine (LA.out _ _ _ _ ⟨HB.out, HG.out, HN.out, D_G_N.out, GEG.out⟩).mono ?_); rintro e w2 ⟨BN3, DN3, PN3, rfl, ⟨hb_, hg_, hn_, hd_, hge_⟩, hrr_, hkk_⟩; refine ⟨_, rfl, ?_⟩; have RRN3 := Aside0.mk (rr_app hrr_ HK.out.1 (rr_or RRG.out RRN.out)); replace HK := Aside0.mk (HK.out.then_ hkk_ (rr_or RRG.out RRN.out)); replace HB := Aside0.mk hb_; replace HG := Aside0.mk hg_; have HN3 := Aside0.mk hn_; have D_G_N3 := Aside0.mk hd_; clear hb_ hg_ hn_ hd_ hge_ hrr_ hkk_ HN; replace jG := HG.out.c3))
 go_ret
 exact ⟨_, _, _, rfl, ⟨HB.out, HG.out, HN3.out, D_G_N3.out, GEG.out⟩, RRN3.out, HK.out⟩
end
end Go.Proofs.Ytlpabbcgichaoaa.PFnExactFind
