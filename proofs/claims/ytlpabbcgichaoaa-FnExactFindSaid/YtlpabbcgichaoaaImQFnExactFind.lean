/- The program's matcher: most. -/
import Derived.Test.YtlpabbcgichaoaaImFFnExactFind
import Derived.Test.YtlpabbcgichaoaaMatFnExactFind
import Derived.Test.YtlpabbcgichaoaaPFnExactFindx6
import Derived.Test.YtlpabbcgichaoaaWWords
namespace Go.Proofs.Ytlpabbcgichaoaa.PFnExactFind
open Go.RowKit Go.Proofs.Ytlpabbcgichaoaa.Lawful Go.Proofs.YtlpabbcgichaoaaW.PrintWords Go.Proofs.YtlpabbcgichaoaaW.PrintLast Go.Proofs.YtlpabbcgichaoaaW.PrintMore
attribute [local go_sem] max2_int min2_int max_two min_two max_three min_three max_four min_four
set_option maxHeartbeats 16000000
set_option maxRecDepth 100000
set_option linter.unusedVariables false
set_option linter.unusedSimpArgs false
section
open Go.Proofs.Ytlpabbcgichaoaa.Lawful
@[reducible] def imE.PPost (E : imE) (w ws : World) (PE PO : Nat → Prop) (gO L2 cO : Nat) (v : Value) (r : List Int) (e : Ending) (w' : World) : Prop :=
 ∃ PE' : Nat → Prop, e = .returned v ∧ E.At w w' PE' (.slice (some ⟨gO, 0, none⟩) L2 cO) ∧ LR (Kd.int .i64) 3 w' w.heap.size PO (.slice (some ⟨gO, 0, none⟩) L2 cO) r ∧ (∀ k, PE k → PE' k) ∧ (∀ k, PE' k → PE k ∨ ws.heap.size ≤ k) ∧ Kept ws w' (fun k_ => (k_ = E.gE ∨ k_ = E.gR) ∨ PO k_)
def imE.Part (E : imE) (w : World) (PO : Nat → Prop) (gO L2 cO : Nat) (x : S31) : Prop := ∀ (node : Nat) (ks : List Int) (i j : Nat) (ws : World) (PE : Nat → Prop) (out : List Int), E.ns[node]? = some (x, ks) → i ≤ j → j ≤ E.T.size → mat (imTx E.T) E.T.size x i j = true → E.At w ws PE (.slice (some ⟨gO, 0, none⟩) L2 cO) → LR (Kd.int .i64) 3 ws w.heap.size PO (.slice (some ⟨gO, 0, none⟩) L2 cO) out → (∀ k, PE k → ¬ PO k) →
 Calls Try.prog 46 #[.pointer (some ⟨E.gG, 0, none⟩), .int .i64 (node : Int), .int .i64 (i : Int), .int .i64 (j : Int)] ws (E.PPost w ws PE PO gO L2 cO (.tuple #[]) (sp (imTx E.T) E.T.size x i j out))
section
variable {P : Program} {ops : Array Oper} {rest : List Oper} {o : Oper} {a : Act} {Q : Exit → Act → World → Prop} {Kc : Act → World → Prop} {w0 W : World} {P1 : Nat → Prop}
theorem ip_at {g n c base : Nat} {kn : List Int} (H : LR (Kd.int .i64) 3 W base P1 (.slice (some ⟨g, 0, none⟩) n c) kn) (i : Nat) (h : i < n) : W.cell? ⟨g, i, none⟩ = some (.int .i64 (kn.getD i 0)) ∧ W.frozen? ⟨g, i, none⟩ = false := by
 have := Kd.R_celln 0 H.1 (i : Int) (by omega) (by omega)
 rw [Int.toNat_natCast] at this
 refine ⟨?_, this.2⟩
 rw [this.1]
 simp [rdOf]
theorem ip_put_step {g n c : Nat} {kn : List Int} (H : LR (Kd.int .i64) 3 W w0.heap.size P1 (.slice (some ⟨g, 0, none⟩) n c) kn) (hB : Below w0.heap.size w0 W) (i : Nat) (hi : i < n) (x : Int) (hw : Region.wanted o (yielded ops a.tmps) = true) (hN : o.dst = none)
  (hrun : (execOp a.eval o).run P W = .ok .skip (W.setCell ⟨g, i, none⟩ (.int .i64 x)))
  (h : ∀ w2, LR (Kd.int .i64) 3 w2 w0.heap.size P1 (.slice (some ⟨g, 0, none⟩) n c) (kn.set i x) → Kept W w2 P1 → Below w0.heap.size w0 w2 → Kc a w2) : if Region.wanted o (yielded ops a.tmps) = true then Oper.wp P o a W Kc Q else Kc (a.put o.dst undef) W := by
 have hl : n = kn.length := H.len
 have hp := Kd.R_putg H.1 (i : Int) x
 rw [Int.toNat_natCast] at hp
 obtain ⟨g', c', he, hge, hlt, _⟩ := Kd.R_form H.1 (by omega)
 injection he with he1 _ _
 injection he1 with he1
 injection he1 with he1 _ _
 subst he1
 have hk : Kept W (W.setCell ⟨g, i, none⟩ (.int .i64 x)) P1 := Kept.of_grown hp.2 (Kept.refl W P1) (fun k hk_ => by injection hk_ with hk_; subst hk_; exact .inl (H.1.1 _ rfl))
 exact skip_step hw hN hrun (h _ (H.wrote hp.1 hk) hk (below_set hB hge))
theorem ip_cellB {base : Nat} {ad : Addr} {n c : Nat} {l : List Bool} (H : LN Kd.bool 4 W base P1 (.slice (some ad) n c) l) (j : Nat) (hj : j < n) {v : Bool} (hv : l.getD j false = v) : W.cell? (ad.add j) = some (.bool v) := by
 obtain ⟨ad', e, h⟩ := im_atN H j hj
 cases e
 rw [h, hv]
end
def impl_most.T5 : Bool × List (List Nat × List Nat) := (true, [([], []), ([], []), ([0, 1], [0, 1]), ([2], [2]), ([3], [3]), ([4], [4]), ([4], [4]), ([4], [4]), ([4], [4]), ([5, 6, 7, 8, 4, 4], [4, 5, 6, 7, 8]), ([4], [4]), ([9, 10, 4], [4, 9, 10]), ([11, 4], [4, 11]), ([4, 12], [4, 12])])
def impl_most.B5 : List Nat := [0, 0, 3, 7, 15, 31, 31, 31, 31, 511, 31, 2047, 4095, 8191]
theorem impl_most.tab5 : rtab .any (opsOf Try.f60 5) = impl_most.T5 := by kernel_rfl
theorem impl_most.bits5 : waitsOk impl_most.T5.2 impl_most.B5 = true := by kernel_rfl
theorem impl_most (E : imE) (w : World) (PO : Nat → Prop) (gO L2 cO : Nat) (hok : E.Ok w) (hGO : ∀ k, E.PG k → ¬ PO k) (hNO : ∀ k, E.PN k → ¬ PO k) (x y : S31) (hkind : x.f0 = 7 ∨ x.f0 = 9) (hpart : E.Part w PO gO L2 cO y) (node kid : Nat) (ks ks2 : List Int) (hnode : E.ns[node]? = some (x, ks)) (hkid : E.ns[kid]? = some (y, ks2)) (d i j least q : Nat) (hd : (x.f0 = 7 → d ≤ x.f4.length) ∧ (x.f0 = 9 → d ≤ 21 ∨ x.f2 < 0)) (hil : i ≤ least) (hj : j ≤ E.T.size) (hq : lastK least (fun k => mat (imTx E.T) E.T.size y i k && onw (imTx E.T) E.T.size x d k j) j = some q) (ws : World) (PE PBM PBI PBJ PBD : Nat → Prop) (gBM gBI gBJ gBD : Nat) (out : List Int) (hAt : E.At w ws PE (.slice (some ⟨gO, 0, none⟩) L2 cO)) (hO : LR (Kd.int .i64) 3 ws w.heap.size PO (.slice (some ⟨gO, 0, none⟩) L2 cO) out) (hEO : ∀ k, PE k → ¬ PO k)
  (hBM : LB ws PBM gBM 54 #[.pointer (some ⟨E.gG, 0, none⟩)]) (hBI : LB ws PBI gBI 3 #[.int .i64 (i : Int)]) (hBJ : LB ws PBJ gBJ 3 #[.int .i64 (j : Int)]) (hBD : LB ws PBD gBD 3 #[.int .i64 (node : Int)]) (e1 : ∀ k, PBM k → ¬ PE k) (e2 : ∀ k, PBI k → ¬ PE k) (e3 : ∀ k, PBJ k → ¬ PE k) (e4 : ∀ k, PBD k → ¬ PE k) (e5 : ∀ k, PBM k → ¬ PO k) (e6 : ∀ k, PBI k → ¬ PO k) (e7 : ∀ k, PBJ k → ¬ PO k) (e8 : ∀ k, PBD k → ¬ PO k) :
  Calls Try.prog 60 #[.int .i64 (kid : Int), .int .i64 (d : Int), .int .i64 (least : Int), .pointer (some ⟨gBM, 0, none⟩), .pointer (some ⟨gBI, 0, none⟩), .pointer (some ⟨gBJ, 0, none⟩), .pointer (some ⟨gBD, 0, none⟩)] ws (E.PPost w ws PE PO gO L2 cO (.int .i64 (q : Int)) (sp (imTx E.T) E.T.size y i q out)) := by
 have HFY := am (fun ws PE hi h => impl_from E w (.slice (some ⟨gO, 0, none⟩) L2 cO) hok _ y (Nat.le_refl _) kid ks2 i ws PE hkid hi h)
 have HOY := am (fun e ws PE he h => impl_onward E w (.slice (some ⟨gO, 0, none⟩) L2 cO) hok x hkind (fun z _ => impl_from E w _ hok _ z (Nat.le_refl _)) _ node d e ks ws PE (Nat.lt_succ_self _) hd he hnode h)
 have HPY := am (fun e ws PE out h1 h2 h3 h4 h5 h6 => hpart kid ks2 i e ws PE out hkid h1 h2 h3 h4 h5 h6)
 have hle := fun e => (mat_le (imTx E.T) E.T.size _).1 y (Nat.le_refl _) i e
 obtain ⟨PG, PN, gG, gE, gR, BN, DN, T, L, ns⟩ := E
 obtain ⟨hne, hL, hT, hgE, hgR, hns, hnaa, htree⟩ := hok
 dsimp only at hL hT hGO hNO hj hq hle HFY HOY HPY hBM ⊢
 have hu := Try.underlying74
 have HL := am hL
 have HT := am hT
 have HJ := am hj
 have HIL := am hil
 have HLE := am hle
 have HQ := am (lastK_some hq)
 clear hne hL hT hgE hgR hns hnaa htree hkind hpart hnode hkid hd hil hj hq hle
 obtain ⟨hb_, hg_, hn_, he_, hge_, hne_⟩ := hAt
 dsimp only at hb_ hg_ hn_ he_ hge_ hne_
 have HB := am hb_
 have HG := am hg_
 have HN := am hn_
 have HE := am he_
 have D_G_E := am hge_
 have D_N_E := am hne_
 have HO := am hO
 have D_G_O := am hGO
 have D_N_O := am hNO
 have D_E_O := am hEO
 have RRO := am (show ∀ k_, PO k_ → (fun k_ => (k_ = gE ∨ k_ = gR) ∨ PO k_) k_ ∨ ws.heap.size ≤ k_ from fun _ h_ => .inl (.inr h_))
 have HK := am (Kept.refl ws (fun k_ => (k_ = gE ∨ k_ = gR) ∨ PO k_))
 have HM1 := am (show ∀ k, PE k → PE k from fun _ h => h)
 have HM2 := am (show ∀ k, PE k → PE k ∨ ws.heap.size ≤ k from fun _ h => .inl h)
 clear hb_ hg_ hn_ he_ hge_ hne_ hO hEO
 have HBM := am hBM
 have HBI := am hBI
 have HBJ := am hBJ
 have HBD := am hBD
 have D_BM_E := am e1
 have D_BI_E := am e2
 have D_BJ_E := am e3
 have D_BD_E := am e4
 have D_BM_O := am e5
 have D_BI_O := am e6
 have D_BJ_O := am e7
 have D_BD_O := am e8
 clear hBM hBI hBJ hBD e1 e2 e3 e4 e5 e6 e7 e8 hGO hNO
 obtain ⟨r, hr⟩ : ∃ r_, r_ = sp (imTx T) T.size y i q out := ⟨_, rfl⟩
 rw [← hr]
 have HRS := am hr
 clear hr
 replace jG := HG.out.c5
 replace jBM := HBM.out.c1
 replace jBI := HBI.out.c1
 replace jBJ := HBJ.out.c1
 replace jBD := HBD.out.c1
 go_enter Try.func60, Try.ntmps60
 go_wp2_with (first | ((with_reducible refine gc 38 rfl ?_); refine gl_ (some 16) rfl rfl Try.func38 #[.pointer (some ⟨gG, 0, none⟩), .int .i64 (kid : Int), .int .i64 (i : Int)] rfl rfl ?_; (with_reducible refine (HFY.out _ _ (by have := HIL.out; have := HQ.out; have := HJ.out; omega) ⟨HB.out, HG.out, HN.out, HE.out, D_G_E.out, D_N_E.out⟩).mono ?_); rintro e w2 ⟨PE51, AR, cR, rfl, ⟨hb_, hg_, hn_, he_, hge_, hne_⟩, hcl_, hF_, hm1_, hm2_, hkk_⟩; refine ⟨_, rfl, ?_⟩; dsimp only at hb_ hg_ hn_ he_ hge_ hne_ hcl_ hF_ hkk_; have D_O_E51 := ay hm2_ HO.out.lt D_E_O; have D_BM_E51 := ax hm2_ HBM.out.lt D_BM_E; have D_BI_E51 := ax hm2_ HBI.out.lt D_BI_E; have D_BJ_E51 := ax hm2_ HBJ.out.lt D_BJ_E; have D_BD_E51 := ax hm2_ HBD.out.lt D_BD_E; replace HO := am (HO.out.step hkk_ (imNotK (apart_symm D_E_O.out) HE.out.1)); replace HBM := am (HBM.out.step hkk_ (imNotK D_BM_E.out HE.out.1)); replace HBI := am (HBI.out.step hkk_ (imNotK D_BI_E.out HE.out.1)); replace HBJ := am (HBJ.out.step hkk_ (imNotK D_BJ_E.out HE.out.1)); replace HBD := am (HBD.out.step hkk_ (imNotK D_BD_E.out HE.out.1)); replace HM1 := hm1w HM1 hm1_; replace HM2 := hm2w HM2 hm2_ HK; have HR := am (imLN (base := w.heap.size) (rowOf_len' HL.out _) hcl_ hF_ (fun k h => he_.lt k h.1)); have D_R_K := drk PE51 gE gR; have D_R_O := dro gE gR D_O_E51; replace HK := am (HK.out.then_ hkk_ (fun _ h_ => .inl (.inl h_))); replace HB := am hb_; replace HG := am hg_; replace HN := am hn_; have HE51 := am he_; have D_G_E51 := am hge_; have D_N_E51 := am hne_; clear hb_ hg_ hn_ he_ hge_ hne_ hcl_ hF_ hm1_ hm2_ hkk_ HE; replace jG := HG.out.c5; replace jBM := HBM.out.c1; replace jBI := HBI.out.c1; replace jBJ := HBJ.out.c1; replace jBD := HBD.out.c1))
 obtain ⟨adR, eR_, _⟩ := im_atN HR.out 0 (by have := HL.out; omega)
 subst eR_
 go_loopg [12] (j + 1 - least) (fun kq v12 w' => ∃ (t : Nat) (z : Int) (PE1 : Nat → Prop), v12 = .int .i64 z ∧ Aside0 (z = (t : Int) - 1) ∧ Aside0 (t = kq + least ∧ q < t ∧ t ≤ j + 1) ∧ Aside0 (Below w.heap.size w w') ∧ Aside0 (LB w' PG gG 74 #[.string T, .slice BN ns.length DN, .map (some gE), .map (some gR), .slice (some ⟨gO, 0, none⟩) L2 cO]) ∧ Aside0 (LN kNA 76 w' w.heap.size PN (.slice BN ns.length DN) ns) ∧ Aside0 (LR (Kd.int .i64) 3 w' w.heap.size PO (.slice (some ⟨gO, 0, none⟩) L2 cO) out) ∧ Aside0 (LB w' PBM gBM 54 #[.pointer (some ⟨gG, 0, none⟩)]) ∧ Aside0 (LB w' PBI gBI 3 #[.int .i64 (i : Int)]) ∧ Aside0 (LB w' PBJ gBJ 3 #[.int .i64 (j : Int)]) ∧ Aside0 (LB w' PBD gBD 3 #[.int .i64 (node : Int)]) ∧ Aside0 (imK ⟨PG, PN, gG, gE, gR, BN, DN, T, L, ns⟩ w' PE1) ∧ Aside0 (LN Kd.bool 4 w' w.heap.size (fun k => PE51 k ∧ k ≠ gE ∧ k ≠ gR) (.slice (some adR) L cR) (rowOf T.size (mat (imTx T) T.size y i))) ∧ Aside0 (∀ k, PG k → ¬ PE1 k) ∧ Aside0 (∀ k, PN k → ¬ PE1 k) ∧ Aside0 (∀ k, PO k → ¬ PE1 k) ∧ Aside0 (∀ k, PBM k → ¬ PE1 k) ∧ Aside0 (∀ k, PBI k → ¬ PE1 k) ∧ Aside0 (∀ k, PBJ k → ¬ PE1 k) ∧ Aside0 (∀ k, PBD k → ¬ PE1 k) ∧ Aside0 (Kept ws w' (fun k_ => (k_ = gE ∨ k_ = gR) ∨ PO k_)) ∧ Aside0 (∀ k, PE k → PE1 k) ∧ Aside0 (∀ k, PE1 k → PE k ∨ ws.heap.size ≤ k))
 case atStart => exact ⟨j + 1, _, _, rfl, ⟨by omega⟩, ⟨by have := HQ.out; omega⟩, HB, HG, HN, HO, HBM, HBI, HBJ, HBD, HE51, HR, ⟨D_G_E51.out⟩, ⟨D_N_E51.out⟩, ⟨D_O_E51.out⟩, ⟨D_BM_E51.out⟩, ⟨D_BI_E51.out⟩, ⟨D_BJ_E51.out⟩, ⟨D_BD_E51.out⟩, HK, HM1, HM2⟩
 case round =>
  clear HB HK HM1 HM2 HG HN HO HBM HBI HBJ HBD HE51 HR
  clear D_BD_E51 D_BI_E51 D_BJ_E51 D_BM_E51 D_G_E51 D_N_E51 D_O_E51
  try clear jG
  try clear jBM
  try clear jBI
  try clear jBJ
  try clear jBD
  obtain ⟨t, z, PZ, rfl, HZZ, HTT, HB, HG, HN, HO, HBM, HBI, HBJ, HBD, HZ, HR, D_G_Z, D_N_Z, D_O_Z, D_BM_Z, D_BI_Z, D_BJ_Z, D_BD_Z, HK, HM1, HM2⟩ := hrel
  obtain ⟨k1, rfl⟩ : ∃ k_, gk = k_ + 1 := ⟨gk - 1, by have := HTT.out; have := HQ.out; omega⟩
  obtain ⟨e, rfl⟩ : ∃ e_, t = e_ + 1 := ⟨t - 1, by have := HTT.out; omega⟩
  obtain rfl : z = (e : Int) := by have := HZZ.out; omega
  have HEJ := am (show least ≤ e ∧ q ≤ e ∧ e ≤ j ∧ e ≤ T.size ∧ e < L from by have := HTT.out; have := HQ.out; have := HJ.out; have := HL.out; omega)
  have cb1 : decide ((e : Int) ≥ (least : Int)) = true := decide_eq_true (by have := HEJ.out; omega)
  have cb2 : decide ((least : Int) ≤ (e : Int)) = true := cb1
  have cb3 : decide (least ≤ e) = true := decide_eq_true HEJ.out.1
  have hw1 : wrap64 ((e : Int) - 1) = (e : Int) - 1 := by have := HEJ.out; have := HT.out; unfold wrap64; omega
  have hw1k : IntKind.i64.wrap ((e : Int) - 1) = (e : Int) - 1 := (i64_w _).trans hw1
  have z1 := zn e
  have z2 := il HEJ.out.2.2.2.2
  have z3 := eq_true HEJ.out.2.2.2.2
  have HRV := am (rowOf_getD T.size (mat (imTx T) T.size y i) e HEJ.out.2.2.2.1)
  have hJL : j < L := by have := HJ.out; have := HL.out; omega
  have HJL := am hJL
  have y1 := zn j
  have y2 := il hJL
  have y3 := eq_true hJL
  clear hJL
  rcases hA : mat (imTx T) T.size y i e with _ | _
  ·
   have HNE := am (show q < e from Nat.lt_of_le_of_ne HEJ.out.2.1 (fun h_ => by subst h_; have h2_ := HQ.out.2.2.1; rw [hA] at h2_; exact absurd h2_ (by simp)))
   replace jG := HG.out.c5
   replace jBM := HBM.out.c1
   replace jBI := HBI.out.c1
   replace jBJ := HBJ.out.c1
   replace jBD := HBD.out.c1
   rw [hA] at HRV
   have HA := am hA
   clear hA
   go_upto_region 5 with (fail)
   refine sr (n := 14) (S := fun w' => w'.cell? ⟨gBM, 0, none⟩ = some (.pointer (some ⟨gG, 0, none⟩)) ∧ w'.cell? ⟨gBD, 0, none⟩ = some (.int .i64 (node : Int)) ∧ w'.cell? ⟨gBJ, 0, none⟩ = some (.int .i64 (j : Int)) ∧ w'.cell? (adR.add e) = some (.bool false)) (ds := []) ⟨jBM.1, jBD.1, jBJ.1, (ip_cellB HR.out e HEJ.out.2.2.2.2 HRV.out)⟩ (fun hHeld => ?_)
   refine with_tabW impl_most.tab5 impl_most.bits5 (fun HT_ HW_ => ?_)
   generalize hwd_ : World.drew wr = wd_ at hHeld ⊢
   have hk := kept_drew hwd_
   replace HG := sn hk HG
   replace HN := nn hk HN
   replace HO := rn hk HO
   replace HBM := sn hk HBM
   replace HBI := sn hk HBI
   replace HBJ := sn hk HBJ
   replace HBD := sn hk HBD
   replace HZ := am (HZ.out.step hk no_S)
   replace HR := nn hk HR
   replace HK := kt HK hk
   replace HB := bd HB hwd_
   clear hk hwd_
   replace jG := HG.out.c5
   replace jBM := HBM.out.c1
   replace jBI := HBI.out.c1
   replace jBJ := HBJ.out.c1
   replace jBD := HBD.out.c1
   refine pu 0 23 HT_.out rfl rfl rfl ?_
   refine pu 1 24 HT_.out rfl rfl rfl ?_
   refine pu 2 25 HT_.out rfl rfl rfl ?_
   refine tk 3 26 HT_.out HW_.out hHeld rfl rfl rfl ?_
   refine pu 4 27 HT_.out rfl rfl rfl ?_
   refine un 5 28 HT_.out rfl rfl rfl ?_
   refine un 6 29 HT_.out rfl rfl rfl ?_
   refine un 7 30 HT_.out rfl rfl rfl ?_
   refine un 8 31 HT_.out rfl rfl rfl ?_
   refine un 9 32 HT_.out rfl rfl rfl ?_
   refine un 10 33 HT_.out rfl rfl rfl ?_
   refine un 11 34 HT_.out rfl rfl rfl ?_
   refine un 12 35 HT_.out rfl rfl rfl ?_
   refine pu 13 36 HT_.out rfl rfl rfl ?_
   refine dn HT_ ?_
   go_wp2
   go_roundg k1
   case measure => have := HTT.out; omega
   case rel => exact ⟨e, _, _, by first | rfl | exact congrArg (Value.int .i64) hw1, ⟨rfl⟩, ⟨by have := HTT.out; have := HNE.out; have := HEJ.out; omega⟩, HB, HG, HN, HO, HBM, HBI, HBJ, HBD, HZ, HR, ⟨D_G_Z.out⟩, ⟨D_N_Z.out⟩, ⟨D_O_Z.out⟩, ⟨D_BM_Z.out⟩, ⟨D_BI_Z.out⟩, ⟨D_BJ_Z.out⟩, ⟨D_BD_Z.out⟩, HK, HM1, HM2⟩
  rcases hB : onw (imTx T) T.size x d e j with _ | _
  ·
   have HNE := am (show q < e from Nat.lt_of_le_of_ne HEJ.out.2.1 (fun h_ => by subst h_; have h2_ := HQ.out.2.2.1; rw [hB, Bool.and_false] at h2_; exact absurd h2_ (by simp)))
   replace jG := HG.out.c5
   replace jBM := HBM.out.c1
   replace jBI := HBI.out.c1
   replace jBJ := HBJ.out.c1
   replace jBD := HBD.out.c1
   rw [hA] at HRV
   have HA := am hA
   clear hA
   go_upto_region 5 with (fail)
   refine sr (n := 14) (S := fun w' => w'.cell? ⟨gBM, 0, none⟩ = some (.pointer (some ⟨gG, 0, none⟩)) ∧ w'.cell? ⟨gBD, 0, none⟩ = some (.int .i64 (node : Int)) ∧ w'.cell? ⟨gBJ, 0, none⟩ = some (.int .i64 (j : Int)) ∧ w'.cell? (adR.add e) = some (.bool true)) (ds := []) ⟨jBM.1, jBD.1, jBJ.1, (ip_cellB HR.out e HEJ.out.2.2.2.2 HRV.out)⟩ (fun hHeld => ?_)
   refine with_tabW impl_most.tab5 impl_most.bits5 (fun HT_ HW_ => ?_)
   generalize hwd_ : World.drew wr = wd_ at hHeld ⊢
   have hk := kept_drew hwd_
   replace HG := sn hk HG
   replace HN := nn hk HN
   replace HO := rn hk HO
   replace HBM := sn hk HBM
   replace HBI := sn hk HBI
   replace HBJ := sn hk HBJ
   replace HBD := sn hk HBD
   replace HZ := am (HZ.out.step hk no_S)
   replace HR := nn hk HR
   replace HK := kt HK hk
   replace HB := bd HB hwd_
   clear hk hwd_
   replace jG := HG.out.c5
   replace jBM := HBM.out.c1
   replace jBI := HBI.out.c1
   replace jBJ := HBJ.out.c1
   replace jBD := HBD.out.c1
   refine pu 0 23 HT_.out rfl rfl rfl ?_
   refine pu 1 24 HT_.out rfl rfl rfl ?_
   refine pu 2 25 HT_.out rfl rfl rfl ?_
   refine tk 3 26 HT_.out HW_.out hHeld rfl rfl rfl ?_
   refine pu 4 27 HT_.out rfl rfl rfl ?_
   refine tk 5 28 HT_.out HW_.out hHeld rfl rfl rfl ?_
   refine tk 6 29 HT_.out HW_.out hHeld rfl rfl rfl ?_
   refine pu 7 30 HT_.out rfl rfl rfl ?_
   refine pu 8 31 HT_.out rfl rfl rfl ?_
   refine tk 10 33 HT_.out HW_.out hHeld rfl rfl rfl ?_
   refine on_ 9 (some 32) HT_.out rfl rfl fun K hK => ?_
   refine gs_ Try.func54 #[.pointer (some ⟨gG, 0, none⟩), .int .i64 (node : Int), .int .i64 (d : Int), .int .i64 (e : Int)] rfl rfl rfl rfl ?_
   (with_reducible refine (HOY.out e _ _ HEJ.out.2.2.2.1 ⟨HB.out, HG.out, HN.out, HZ.out, D_G_Z.out, D_N_Z.out⟩).mono ?_)
   rintro e w2 ⟨PE52, AS, cS, rfl, ⟨hb_, hg_, hn_, he_, hge_, hne_⟩, hcl_, hF_, hm1_, hm2_, hkk_⟩
   refine ⟨_, rfl, ?_⟩
   dsimp only at hb_ hg_ hn_ he_ hge_ hne_ hcl_ hF_ hkk_
   have D_O_E52 := ax hm2_ HO.out.lt D_O_Z
   have D_BM_E52 := ax hm2_ HBM.out.lt D_BM_Z
   have D_BI_E52 := ax hm2_ HBI.out.lt D_BI_Z
   have D_BJ_E52 := ax hm2_ HBJ.out.lt D_BJ_Z
   have D_BD_E52 := ax hm2_ HBD.out.lt D_BD_Z
   replace HO := am (HO.out.step hkk_ (imNotK D_O_Z.out HZ.out.1))
   replace HBM := am (HBM.out.step hkk_ (imNotK D_BM_Z.out HZ.out.1))
   replace HBI := am (HBI.out.step hkk_ (imNotK D_BI_Z.out HZ.out.1))
   replace HBJ := am (HBJ.out.step hkk_ (imNotK D_BJ_Z.out HZ.out.1))
   replace HBD := am (HBD.out.step hkk_ (imNotK D_BD_Z.out HZ.out.1))
   replace HR := ns_ hkk_ HR D_R_K.out
   replace HM1 := hm1w HM1 hm1_
   replace HM2 := hm2w HM2 hm2_ HK
   have HS := am (imLN (base := w.heap.size) (rowOf_len' HL.out _) hcl_ hF_ (fun k h => he_.lt k h.1))
   have D_S_K := drk PE52 gE gR
   have D_S_O := dro gE gR D_O_E52
   replace HK := am (HK.out.then_ hkk_ (fun _ h_ => .inl (.inl h_)))
   replace HB := am hb_
   replace HG := am hg_
   replace HN := am hn_
   have HE52 := am he_
   have D_G_E52 := am hge_
   have D_N_E52 := am hne_
   clear hb_ hg_ hn_ he_ hge_ hne_ hcl_ hF_ hm1_ hm2_ hkk_ HZ
   replace jG := HG.out.c5
   replace jBM := HBM.out.c1
   replace jBI := HBI.out.c1
   replace jBJ := HBJ.out.c1
   replace jBD := HBD.out.c1
   refine hK.out _ _ ⟨jBM.1, jBD.1, jBJ.1, (ip_cellB HR.out e HEJ.out.2.2.2.2 HRV.out)⟩ (fun hHeld => ?_)
   clear hK K
   refine nm ?_
   obtain ⟨adS, eS_, hs0⟩ := im_atN HS.out j HJL.out
   subst eS_
   rw [rowOf_getD T.size _ j HJ.out, hB] at hs0
   refine pu 11 34 HT_.out rfl rfl rfl ?_
   refine on_ 12 (some 35) HT_.out rfl rfl fun K hK => ?_
   refine event_step (w1 := w2) (v := .bool false) (by rfl) ?hr_3 ?_
   (case hr_3 => go_simp; first | done | rfl)
   skip
   refine hK.out _ _ ⟨jBM.1, jBD.1, jBJ.1, (ip_cellB HR.out e HEJ.out.2.2.2.2 HRV.out)⟩ (fun hHeld => ?_)
   clear hK K
   refine nm ?_
   refine pu 13 36 HT_.out rfl rfl rfl ?_
   refine dn HT_ ?_
   go_wp2
   go_roundg k1
   case measure => have := HTT.out; omega
   case rel => exact ⟨e, _, _, by first | rfl | exact congrArg (Value.int .i64) hw1, ⟨rfl⟩, ⟨by have := HTT.out; have := HNE.out; have := HEJ.out; omega⟩, HB, HG, HN, HO, HBM, HBI, HBJ, HBD, HE52, HR, ⟨D_G_E52.out⟩, ⟨D_N_E52.out⟩, ⟨D_O_E52.out⟩, ⟨D_BM_E52.out⟩, ⟨D_BI_E52.out⟩, ⟨D_BJ_E52.out⟩, ⟨D_BD_E52.out⟩, HK, HM1, HM2⟩
  obtain rfl : e = q := by
   rcases Nat.lt_or_ge q e with h_ | h_
   ·
    have h2_ := HQ.out.2.2.2 e h_ HEJ.out.2.2.1; rw [hA, hB] at h2_; exact absurd h2_ (by simp)
   exact Nat.le_antisymm h_ HEJ.out.2.1
  replace jG := HG.out.c5
  replace jBM := HBM.out.c1
  replace jBI := HBI.out.c1
  replace jBJ := HBJ.out.c1
  replace jBD := HBD.out.c1
  rw [hA] at HRV
  have HA := am hA
  clear hA
  go_upto_region 5 with (fail)
  refine sr (n := 14) (S := fun w' => w'.cell? ⟨gBM, 0, none⟩ = some (.pointer (some ⟨gG, 0, none⟩)) ∧ w'.cell? ⟨gBD, 0, none⟩ = some (.int .i64 (node : Int)) ∧ w'.cell? ⟨gBJ, 0, none⟩ = some (.int .i64 (j : Int)) ∧ w'.cell? (adR.add e) = some (.bool true)) (ds := []) ⟨jBM.1, jBD.1, jBJ.1, (ip_cellB HR.out e HEJ.out.2.2.2.2 HRV.out)⟩ (fun hHeld => ?_)
  refine with_tabW impl_most.tab5 impl_most.bits5 (fun HT_ HW_ => ?_)
  generalize hwd_ : World.drew wr = wd_ at hHeld ⊢
  have hk := kept_drew hwd_
  replace HG := sn hk HG
  replace HN := nn hk HN
  replace HO := rn hk HO
  replace HBM := sn hk HBM
  replace HBI := sn hk HBI
  replace HBJ := sn hk HBJ
  replace HBD := sn hk HBD
  replace HZ := am (HZ.out.step hk no_S)
  replace HR := nn hk HR
  replace HK := kt HK hk
  replace HB := bd HB hwd_
  clear hk hwd_
  replace jG := HG.out.c5
  replace jBM := HBM.out.c1
  replace jBI := HBI.out.c1
  replace jBJ := HBJ.out.c1
  replace jBD := HBD.out.c1
  refine pu 0 23 HT_.out rfl rfl rfl ?_
  refine pu 1 24 HT_.out rfl rfl rfl ?_
  refine pu 2 25 HT_.out rfl rfl rfl ?_
  refine tk 3 26 HT_.out HW_.out hHeld rfl rfl rfl ?_
  refine pu 4 27 HT_.out rfl rfl rfl ?_
  refine tk 5 28 HT_.out HW_.out hHeld rfl rfl rfl ?_
  refine tk 6 29 HT_.out HW_.out hHeld rfl rfl rfl ?_
  refine pu 7 30 HT_.out rfl rfl rfl ?_
  refine pu 8 31 HT_.out rfl rfl rfl ?_
  refine tk 10 33 HT_.out HW_.out hHeld rfl rfl rfl ?_
  refine on_ 9 (some 32) HT_.out rfl rfl fun K hK => ?_
  refine gs_ Try.func54 #[.pointer (some ⟨gG, 0, none⟩), .int .i64 (node : Int), .int .i64 (d : Int), .int .i64 (e : Int)] rfl rfl rfl rfl ?_
  (with_reducible refine (HOY.out e _ _ HEJ.out.2.2.2.1 ⟨HB.out, HG.out, HN.out, HZ.out, D_G_Z.out, D_N_Z.out⟩).mono ?_)
  rintro e w2 ⟨PE53, AS, cS, rfl, ⟨hb_, hg_, hn_, he_, hge_, hne_⟩, hcl_, hF_, hm1_, hm2_, hkk_⟩
  refine ⟨_, rfl, ?_⟩
  dsimp only at hb_ hg_ hn_ he_ hge_ hne_ hcl_ hF_ hkk_
  have D_O_E53 := ax hm2_ HO.out.lt D_O_Z
  have D_BM_E53 := ax hm2_ HBM.out.lt D_BM_Z
  have D_BI_E53 := ax hm2_ HBI.out.lt D_BI_Z
  have D_BJ_E53 := ax hm2_ HBJ.out.lt D_BJ_Z
  have D_BD_E53 := ax hm2_ HBD.out.lt D_BD_Z
  replace HO := am (HO.out.step hkk_ (imNotK D_O_Z.out HZ.out.1))
  replace HBM := am (HBM.out.step hkk_ (imNotK D_BM_Z.out HZ.out.1))
  replace HBI := am (HBI.out.step hkk_ (imNotK D_BI_Z.out HZ.out.1))
  replace HBJ := am (HBJ.out.step hkk_ (imNotK D_BJ_Z.out HZ.out.1))
  replace HBD := am (HBD.out.step hkk_ (imNotK D_BD_Z.out HZ.out.1))
  replace HR := ns_ hkk_ HR D_R_K.out
  replace HM1 := hm1w HM1 hm1_
  replace HM2 := hm2w HM2 hm2_ HK
  have HS := am (imLN (base := w.heap.size) (rowOf_len' HL.out _) hcl_ hF_ (fun k h => he_.lt k h.1))
  have D_S_K := drk PE53 gE gR
  have D_S_O := dro gE gR D_O_E53
  replace HK := am (HK.out.then_ hkk_ (fun _ h_ => .inl (.inl h_)))
  replace HB := am hb_
  replace HG := am hg_
  replace HN := am hn_
  have HE53 := am he_
  have D_G_E53 := am hge_
  have D_N_E53 := am hne_
  clear hb_ hg_ hn_ he_ hge_ hne_ hcl_ hF_ hm1_ hm2_ hkk_ HZ
  replace jG := HG.out.c5
  replace jBM := HBM.out.c1
  replace jBI := HBI.out.c1
  replace jBJ := HBJ.out.c1
  replace jBD := HBD.out.c1
  refine hK.out _ _ ⟨jBM.1, jBD.1, jBJ.1, (ip_cellB HR.out e HEJ.out.2.2.2.2 HRV.out)⟩ (fun hHeld => ?_)
  clear hK K
  refine nm ?_
  obtain ⟨adS, eS_, hs0⟩ := im_atN HS.out j HJL.out
  subst eS_
  rw [rowOf_getD T.size _ j HJ.out, hB] at hs0
  refine pu 11 34 HT_.out rfl rfl rfl ?_
  refine on_ 12 (some 35) HT_.out rfl rfl fun K hK => ?_
  refine event_step (w1 := w2) (v := .bool true) (by rfl) ?hr_5 ?_
  (case hr_5 => go_simp; first | done | rfl)
  skip
  refine hK.out _ _ ⟨jBM.1, jBD.1, jBJ.1, (ip_cellB HR.out e HEJ.out.2.2.2.2 HRV.out)⟩ (fun hHeld => ?_)
  clear hK K
  refine nm ?_
  refine pu 13 36 HT_.out rfl rfl rfl ?_
  refine dn HT_ ?_
  clear HR HS D_R_K D_S_K D_R_O D_S_O hs0
  go_wp2_with (first | ((with_reducible refine gc 46 rfl ?_); refine gl_ (some 41) rfl rfl Try.func46 #[.pointer (some ⟨gG, 0, none⟩), .int .i64 (kid : Int), .int .i64 (i : Int), .int .i64 (e : Int)] rfl rfl ?_; (with_reducible refine (HPY.out e _ _ _ (HLE.out e HA.out) HEJ.out.2.2.2.1 HA.out ⟨HB.out, HG.out, HN.out, HE53.out, D_G_E53.out, D_N_E53.out⟩ HO.out (apart_symm D_O_E53.out)).mono ?_); rintro e w2 ⟨PE54, rfl, ⟨hb_, hg_, hn_, he_, hge_, hne_⟩, ho_, hm1_, hm2_, hkk_⟩; refine ⟨_, rfl, ?_⟩; dsimp only at hb_ hg_ hn_ he_ hge_ hne_ ho_ hkk_; have D_BM_E54 := ax hm2_ HBM.out.lt D_BM_E53; have D_BI_E54 := ax hm2_ HBI.out.lt D_BI_E53; have D_BJ_E54 := ax hm2_ HBJ.out.lt D_BJ_E53; have D_BD_E54 := ax hm2_ HBD.out.lt D_BD_E53; have D_O_E54 := ax hm2_ HO.out.lt D_O_E53; replace HBM := am (HBM.out.step hkk_ (apart_or (imNotK D_BM_E53.out HE53.out.1) D_BM_O.out)); replace HBI := am (HBI.out.step hkk_ (apart_or (imNotK D_BI_E53.out HE53.out.1) D_BI_O.out)); replace HBJ := am (HBJ.out.step hkk_ (apart_or (imNotK D_BJ_E53.out HE53.out.1) D_BJ_O.out)); replace HBD := am (HBD.out.step hkk_ (apart_or (imNotK D_BD_E53.out HE53.out.1) D_BD_O.out)); replace HM1 := hm1w HM1 hm1_; replace HM2 := hm2w HM2 hm2_ HK; replace HK := kl HK hkk_; replace HB := am hb_; replace HG := am hg_; replace HN := am hn_; have HE54 := am he_; have D_G_E54 := am hge_; have D_N_E54 := am hne_; replace HO := am ho_; clear hb_ hg_ hn_ he_ hge_ hne_ ho_ hm1_ hm2_ hkk_ HE53; replace jG := HG.out.c5; replace jBM := HBM.out.c1; replace jBI := HBI.out.c1; replace jBJ := HBJ.out.c1; replace jBD := HBD.out.c1))
  go_ret
  exact ⟨_, rfl, ⟨HB.out, HG.out, HN.out, HE54.out, D_G_E54.out, D_N_E54.out⟩, (by rw [HRS.out]; exact HO.out), HM1.out, HM2.out, HK.out⟩
end
end Go.Proofs.Ytlpabbcgichaoaa.PFnExactFind
